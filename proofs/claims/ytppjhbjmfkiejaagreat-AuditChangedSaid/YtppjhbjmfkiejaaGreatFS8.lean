/- S8 S9 Sa -/
import Derived.Test.YtppjhbjmfkiejaaGreatFAg7
import Derived.Test.YtppjhbjmfkiejaaGreatFV5
import Derived.Test.YtppjhbjmfkiejaaGreatFV1
namespace Go.Proofs.YtppjhbjmfkiejaaGreat
set_option maxRecDepth 100000
set_option maxHeartbeats 4000000
open Go.RowKit
open IntKind (wrap)
def eq2 (a b c d:Int):Bool:=a == c && b == d
@[go_sem] theorem a2_equal (a1 a2 b1 b2 : Int) (w:World):(Op.equalIn 10000 76 (.agg #[.int .i64 a1,.int .i64 a2]) (.agg #[.int .i64 b1,.int .i64 b2])).run Tryz.prog w=.ok (eq2 a1 a2 b1 b2) w:=by
 cases hi:Tryz.prog.info? 3 with
 | none => exact absurd (hi.symm.trans rfl) (by have h:(Tryz.prog.info? 3).isSome=true:=by kernel_rfl
                                                rw[hi] at h;cases h)
 | some i =>
   rw[show (10000:Nat)=9999+1 from rfl,run_equalIn_array w 9999 _ _ Tryz.underlying76 hi];have hc:Tryz.prog.cellsOf 3=1:=by kernel_rfl
   rw[hc];unfold eq2;simp[Op.eqItems,go_sem,List.range_succ];by_cases h1:a1=b1<;>by_cases h2:a2=b2<;>simp[h1,h2]
def chC (s:Ch):List Value:=[.int .i64 s.a,.int .i64 s.d,.int .i64 s.y]
theorem aU.ch {w wr:World} {cap k:Nat} {p:Option Addr} {l:List Ch} (hv:aU chC 3 w p l.length cap l) (ho:Oy [] w wr) (hk:k<l.length) :
  ∃ bk off,p=some ⟨bk,off,none⟩/\wr.cell? ⟨bk,off+k*3,none⟩=some (.int .i64 (l.getD k OG).a)/\wr.cell? ⟨bk,off+k*3+1,none⟩=some (.int .i64 (l.getD k OG).d)/\wr.cell? ⟨bk,off+k*3+2,none⟩=some (.int .i64 (l.getD k OG).y)/\bk<wr.heap.size:=by
 obtain⟨bk,off,hp,hb,hc⟩:=hv.at_ ho (getD_some OG hk);exact⟨bk,off,hp,hc 0 _ rfl,hc 1 _ rfl,hc 2 _ rfl,hb⟩
theorem clp_b {n:Int}:(nC n == n)=dZ n 0 10000000000:=by rw[Bool.eq_iff_iff,beq_iff_eq];exact clp_eq
theorem RN (a b:Int):eq2 (nC a) (nC b) a b=(dZ a 0 10000000000 && dZ b 0 10000000000):=by unfold eq2;rw[clp_b,clp_b]
def LcI (w1:World) (l:List Ch) (vi:Value) (wr:World):Prop:=
 ∃ k:Nat,k<=l.length/\vi=.int .i64 k/\(l.take k).all JA=true/\Oy [] w1 wr
def LcJ (w1:World) (l:List Ch) (vi:Value) (wr:World):Prop:=
 ∃ k:Nat,1<=k/\vi=.int .i64 k/\fe (chO l) (l.length-1) 1=fe (chO l) (l.length-k) k/\Oy [] w1 wr
def VR (l:Lk) (p:Option Addr) (n cap:Nat):Value:=.agg #[.int .i64 l.d0,.int .i64 l.d1,.int .i64 l.v0,.int .i64 l.v1,.int .i64 l.lo,.int .u64 l.sd,.slice p n cap]
theorem QN {w:World} {p:Option Addr} {n cap:Nat} (l:Lk) (hv:aU chC 3 w p n cap l.ch) (hn:n<=100000) :
  Calls Tryz.prog 78 #[VR l p n cap] w fun e w'=>e=.returned (.int .i64 (fP l))/\Oy [] w w':=by
 have hl:=hv.len;subst hl;have HV:=aA hv;clear hv;unfold VR;go_enter Tryz.func78,Tryz.ntmps78
 go_upto_region 1 with (fail)
 refine aG (G:=fun w0=>Code.wp _ _ _ _ w0) ?_;intro w1 hb1 ho1 hs1;have B1:=aA hb1;have O1:=aA ho1;clear hb1 ho1 hs1;have g0:=aC B1.out 0;have g1:=aC B1.out 1;have g2:=aC B1.out 2;have g3:=aC B1.out 3;have g4:=aC B1.out 4;have g6:=aC B1.out 6;have l0:=aF B1.out;have hd:=RN l.d0 l.d1;have hvv:=RN l.v0 l.v1;by_cases h1:(dZ l.d0 0 10000000000 && dZ l.d1 0 10000000000)=true
 ·have q1 : eq2 (nC l.d0) (nC l.d1) l.d0 l.d1=true:=hd.trans h1
  clear hd;by_cases h2:(dZ l.v0 0 10000000000 && dZ l.v1 0 10000000000)=true
  ·have q2:eq2 (nC l.v0) (nC l.v1) l.v0 l.v1=true:=hvv.trans h2
   clear hvv;by_cases h3:dZ l.lo 0 1000=true
   ·obtain⟨p0,p1⟩:=bI.1 h3
    have e1:decide (l.lo<0)=false:=by simp;omega
    have e2:decide (l.lo > 1000)=false:=by simp;omega
    have e3:decide (1000<l.lo)=false:=by simp;omega
    have HR:Hid (fP l=if l.ch.all JA=true then (if 16<l.ch.length then 6 else fe (chO l.ch) (l.ch.length-1) 1) else 3):=aA (by unfold fP;rw[if_pos (by unfold lkR;rw[h1,h2,h3];rfl)]);clear h1 h2 h3;refine aP [0,1,2,3,4,5,6,7,8,9,10,11,12,13,14,15,16,17,18,19,20,21,22,23] [] (by kernel_rfl) (by kernel_rfl) ?_;simp only[bV];iterate 2 (refine wpQuiet_step (fun K hK=>?_);go_simp;refine hK _ ?_;clear hK K)
    refine cK (by kernel_rfl) 91 #[.agg #[.int .i64 l.d0,.int .i64 l.d1]] (fun _=>by kernel_rfl) (.agg #[.int .i64 (nC l.d0),.int .i64 (nC l.d1)]) (eH fun w' ho'=>lK _ _ w') ?_;iterate 3 (refine wpQuiet_step (fun K hK=>?_);go_simp;refine hK _ ?_;clear hK K)
    repeat (go_big_quiet_step (fail))
    refine cK (by kernel_rfl) 91 #[.agg #[.int .i64 l.v0,.int .i64 l.v1]] (fun _=>by kernel_rfl) (.agg #[.int .i64 (nC l.v0),.int .i64 (nC l.v1)]) (eH fun w' ho'=>lK _ _ w') ?_;iterate 3 (refine wpQuiet_step (fun K hK=>?_);go_simp;refine hK _ ?_;clear hK K)
    repeat (go_big_quiet_step (fail))
    refine wpQuiet_nil ?_;intro w2 hw2;have O2:=aA (O1.out.aB (aN hw2));have B2:=aA ((aN hw2).got B1.out (by simp));clear hw2 g0 g1 g2 g3 g4 g6 l0;clear e1 e2 e3 p0 p1 q1 q2;have g6:=aC B2.out 6;have l0:=aF B2.out;go_wp2;go_loopw [33] (fun vi wr=>LcI w2 l.ch vi wr) (fun vi _=>l.ch.length-(intOf vi).toNat)
    case atStart=>exact⟨0,Nat.zero_le _,rfl,rfl,aR _ _⟩
    case round =>
     clear g6 l0;obtain⟨k,hk,rfl,hall,ho⟩:=hrel;have HA:=aA hall;have OO:=aA ho;have OA:=aA (O2.out.aB ho);have B3:=aA (ho.got B2.out (by simp));clear hall ho;by_cases hlt:k<l.ch.length
     ·obtain⟨bk,off,hp,c0,c1,c2,lb⟩:=HV.out.ch OA.out hlt
      subst hp;have hgk:=getD_some OG hlt;have hmem:=List.mem_of_getElem? hgk;have htk:(l.ch.take (k+1)).all JA=JA (l.ch.getD k OG):=by rw[List.take_add_one,hgk];simp[List.all_append,HA.out]
      have HNO:Hid (JA (l.ch.getD k OG)=false->fP l=3):=aA (fun h=>by rw[HR.out,if_neg (fun hq=>by rw[List.all_eq_true] at hq;rw[hq _ hmem] at h;cases h)]);generalize l.ch.getD k OG=c at c0 c1 c2 htk HNO hgk hmem;have HTK:=aA htk;clear hgk hmem htk;go_upto_region 6 with (fail)
      refine aG (G:=fun w0=>Code.wp _ _ _ _ w0) ?_;intro w4 hb4 ho4 hs4;have E4:=aA hb4;have O4:=aA (OO.out.aB ho4);have OB:=aA (OA.out.aB ho4);clear hb4 ho4 hs4 c0 c1 c2 lb;have c0:=aC E4.out 0;have c1:=aC E4.out 1;have c2:=aC E4.out 2;have le:=aF E4.out;go_wp2_with fail
      refine (XC c.a w4).mono ?_;rintro e w5 ⟨rfl,rfl⟩;by_cases ha:dZ c.a 0 1125899906842624=true
      ·rw [ha]
       go_wp2_with fail
       refine (pDir c.d w4).mono ?_;rintro e w5 ⟨rfl,rfl⟩;by_cases hd:dZ c.d 0 1=true
       ·rw[hd]
        by_cases hy:dZ c.y 0 10000000000=true
        ·obtain⟨p0,p1⟩:=bI.1 hy
         have e1:decide (c.y<0)=false:=by simp;omega
         have e2:decide (c.y > 10000000000)=false:=by simp;omega
         have e3:decide (10000000000<c.y)=false:=by simp;omega
         have HX:=aA (HTK.out.trans (show JA c=true by unfold JA;rw[ha,hd,hy];rfl));clear ha hd hy;go_wp2;go_roundw
         case rel=>exact⟨k+1,by omega,by go_num,HX.out,O4.out⟩
         case measure=>first|(simp[intOf];done)|(simp[intOf];omega)
        ·have HX:=aA (HNO.out (show JA c=false by unfold JA;rw[Bool.not_eq_true] at hy;rw[ha,hd,hy];rfl))
         rcases kD hy with hq|⟨hq,hr⟩
         ·have e1:decide (c.y<0)=true:=by simp;omega
          clear ha hd hy;go_wp2;go_ret
          exact⟨by rw[HX.out];rfl,OB.out⟩
         ·have e1:decide (c.y<0)=false:=by simp;omega
          have e2:decide (c.y > 10000000000)=true:=by simp;omega
          have e3:decide (10000000000<c.y)=true:=by simp;omega
          clear ha hd hy;go_wp2;go_ret
          exact⟨by rw[HX.out];rfl,OB.out⟩
       ·rw[Bool.not_eq_true] at hd
        rw[hd];have HX:=aA (HNO.out (show JA c=false by unfold JA;rw[ha,hd];rfl));clear ha hd;go_wp2;go_ret
        exact⟨by rw[HX.out];rfl,OB.out⟩
      ·rw[Bool.not_eq_true] at ha
       rw[ha];have HX:=aA (HNO.out (show JA c=false by unfold JA;rw[ha];rfl));clear ha;go_wp2;go_ret
       exact⟨by rw[HX.out];rfl,OB.out⟩
     ·obtain rfl:k=l.ch.length:=by omega
      have hal:=HA.out;rw[List.take_of_length_le (Nat.le_refl _)] at hal;have hr2:=HR.out;rw[if_pos hal] at hr2;have g6:=aC B3.out 6;have l0:=aF B3.out;by_cases h16:16<l.ch.length
      ·have d2:decide ((l.ch.length:Int) > 16)=true:=by simp;omega
       have d3:decide (16<(l.ch.length:Int))=true:=by simp;omega
       have HX:Hid (fP l=6):=aA (by rw[hr2,if_pos h16]);clear hr2 hal;go_wp2;go_ret
       exact⟨by rw[HX.out];rfl,OA.out⟩
      ·have d2:decide ((l.ch.length:Int) > 16)=false:=by simp;omega
       have d3:decide (16<(l.ch.length:Int))=false:=by simp;omega
       have HX:Hid (fP l=fe (chO l.ch) (l.ch.length-1) 1):=aA (by rw[hr2,if_neg h16]);clear hr2 hal;obtain⟨wo,rfl⟩:∃ wo:World,wo=wr:=⟨_,rfl⟩;go_wp2;go_loopw [5] (fun vi wr=>LcJ wo l.ch vi wr) (fun vi _=>l.ch.length-(intOf vi).toNat)
       case atStart=>exact⟨1,Nat.le_refl _,rfl,rfl,aR _ _⟩
       case round =>
        clear g6 l0 d2 d3;obtain⟨k,hk,rfl,hfe,ho⟩:=hrel;have HF:=aA hfe;have OO':=aA ho;have OA':=aA (OA.out.aB ho);have B4:=aA (ho.got B3.out (by simp));clear hfe ho;have g6:=aC B4.out 6;have l0:=aF B4.out;by_cases hlt:k<l.ch.length
        ·obtain⟨bk,off,hp,c0,c1,c2,lb⟩:=HV.out.ch OA'.out hlt
         obtain⟨bk',off',hp',p0,p1,p2,lb'⟩:=HV.out.ch OA'.out (show k-1<l.ch.length by omega);subst hp
         cases hp'
         clear p1 p2 lb' c1 c2;have hE:chO l.ch k=if (l.ch.getD k OG).a<(l.ch.getD (k-1) OG).a then 12 else 0:=rfl
         generalize l.ch.getD k OG=s at c0 hE;generalize l.ch.getD (k-1) OG=t at p0 hE;have hi1:(1:Int)<=(k:Int):=by omega
         have hi2:(k:Int)-1<(l.ch.length:Int):=by omega
         have hi3:wrap .i64 ((k:Int)-1)=(k:Int)-1:=IntWalk.i64_in _ (by omega);have hi4:((k:Int)-1).toNat=k-1:=by omega
         by_cases hc:s.a<t.a
         ·have z1:decide (s.a<t.a)=true:=by simp[hc]
          rw[if_pos hc] at hE;have HY:Hid (fP l=12):=aA (by rw[HX.out,HF.out,CX hlt (by rw[hE];decide),hE]);clear hE hc;go_wp2_with fail
          go_quiet (fail)
          go_wp2;go_ret
          exact⟨by rw[HY.out];rfl,OA'.out.aB (qU _ _)⟩
         ·have z1:decide (s.a<t.a)=false:=by simpa using hc
          rw[if_neg hc] at hE;have HY:=aA (HF.out.trans (uQ hlt hE));clear hE hc;go_wp2_with fail
          go_quiet (fail)
          clear hi3 hi4;go_wp2;go_roundw
          case rel=>exact⟨k+1,by omega,by go_num,HY.out,OO'.out.aB (qU _ _)⟩
          case measure=>first|(simp[intOf];done)|(simp[intOf];omega)
        ·have HY:Hid (fP l=0):=aA (by rw[HX.out,HF.out,uR (by omega)])
         have n1:decide ((k:Int)<(l.ch.length:Int))=false:=by simp;omega
         have n2:decide (k<l.ch.length)=false:=by simp;omega
         go_wp2;go_ret
         exact⟨by rw[HY.out];rfl,OA'.out⟩
   ·have e0:=h3
    rw[Bool.not_eq_true] at e0;rcases kD h3 with hq|⟨hq,hr⟩
    focus
     have e1:decide (l.lo<0)=true:=by simp;omega
    rotate_left
    focus
     have e1:decide (l.lo<0)=false:=by simp;omega
     have e2:decide (l.lo > 1000)=true:=by simp;omega
     have e3:decide (1000<l.lo)=true:=by simp;omega
    rotate_left
    all_goals
     have HR:Hid (fP l=3):=aA (by unfold fP;rw[if_neg (by unfold lkR;rw[e0];simp)]);refine aP [0,1,2,3,4,5,6,7,8,9,10,11,12,13,14,15,16,17,18,19,20,21,22,23] [] (by kernel_rfl) (by kernel_rfl) ?_;simp only[bV];iterate 2 (refine wpQuiet_step (fun K hK=>?_);go_simp;refine hK _ ?_;clear hK K)
     refine cK (by kernel_rfl) 91 #[.agg #[.int .i64 l.d0,.int .i64 l.d1]] (fun _=>by kernel_rfl) (.agg #[.int .i64 (nC l.d0),.int .i64 (nC l.d1)]) (eH fun w' ho'=>lK _ _ w') ?_;iterate 3 (refine wpQuiet_step (fun K hK=>?_);go_simp;refine hK _ ?_;clear hK K)
     repeat (go_big_quiet_step (fail))
     refine cK (by kernel_rfl) 91 #[.agg #[.int .i64 l.v0,.int .i64 l.v1]] (fun _=>by kernel_rfl) (.agg #[.int .i64 (nC l.v0),.int .i64 (nC l.v1)]) (eH fun w' ho'=>lK _ _ w') ?_;iterate 3 (refine wpQuiet_step (fun K hK=>?_);go_simp;refine hK _ ?_;clear hK K)
     repeat (go_big_quiet_step (fail))
     refine wpQuiet_nil ?_;intro w2 hw2;have O2:=aA (O1.out.aB (aN hw2));have B2:=aA ((aN hw2).got B1.out (by simp));clear hw2 g0 g1 g2 g3 g4 g6 l0;go_wp2;go_ret
     exact⟨by rw[HR.out];rfl,O2.out⟩
  ·rw[Bool.not_eq_true] at h2
   have q2:eq2 (nC l.v0) (nC l.v1) l.v0 l.v1=false:=hvv.trans h2;clear hvv;have HR:Hid (fP l=3):=aA (by unfold fP;rw[if_neg (by unfold lkR;rw[h2];simp)]);refine aP [0,1,2,3,4,5,6,7,8,9,10,11,12,13,14,15,16,17,18,19,20,21,22,23] [] (by kernel_rfl) (by kernel_rfl) ?_;simp only[bV];iterate 2 (refine wpQuiet_step (fun K hK=>?_);go_simp;refine hK _ ?_;clear hK K)
   refine cK (by kernel_rfl) 91 #[.agg #[.int .i64 l.d0,.int .i64 l.d1]] (fun _=>by kernel_rfl) (.agg #[.int .i64 (nC l.d0),.int .i64 (nC l.d1)]) (eH fun w' ho'=>lK _ _ w') ?_;iterate 3 (refine wpQuiet_step (fun K hK=>?_);go_simp;refine hK _ ?_;clear hK K)
   repeat (go_big_quiet_step (fail))
   refine cK (by kernel_rfl) 91 #[.agg #[.int .i64 l.v0,.int .i64 l.v1]] (fun _=>by kernel_rfl) (.agg #[.int .i64 (nC l.v0),.int .i64 (nC l.v1)]) (eH fun w' ho'=>lK _ _ w') ?_;iterate 3 (refine wpQuiet_step (fun K hK=>?_);go_simp;refine hK _ ?_;clear hK K)
   repeat (go_big_quiet_step (fail))
   refine wpQuiet_nil ?_;intro w2 hw2;have O2:=aA (O1.out.aB (aN hw2));have B2:=aA ((aN hw2).got B1.out (by simp));clear hw2 g0 g1 g2 g3 g4 g6 l0;go_wp2;go_ret
   exact⟨by rw[HR.out];rfl,O2.out⟩
 ·rw[Bool.not_eq_true] at h1
  have q1:eq2 (nC l.d0) (nC l.d1) l.d0 l.d1=false:=hd.trans h1;clear hd hvv;have HR:Hid (fP l=3):=aA (by unfold fP;rw[if_neg (by unfold lkR;rw[h1];simp)]);refine aP [0,1,2,3,4,5,6,7,8,9,10,11,12,13,14,15,16,17,18,19,20,21,22,23] [] (by kernel_rfl) (by kernel_rfl) ?_;simp only[bV];iterate 2 (refine wpQuiet_step (fun K hK=>?_);go_simp;refine hK _ ?_;clear hK K)
  refine cK (by kernel_rfl) 91 #[.agg #[.int .i64 l.d0,.int .i64 l.d1]] (fun _=>by kernel_rfl) (.agg #[.int .i64 (nC l.d0),.int .i64 (nC l.d1)]) (eH fun w' ho'=>lK _ _ w') ?_;iterate 3 (refine wpQuiet_step (fun K hK=>?_);go_simp;refine hK _ ?_;clear hK K)
  repeat (go_big_quiet_step (fail))
  refine wpQuiet_nil ?_;intro w2 hw2;have O2:=aA (O1.out.aB (aN hw2));have B2:=aA ((aN hw2).got B1.out (by simp));clear hw2 g0 g1 g2 g3 g4 g6 l0;go_wp2;go_ret
  exact⟨by rw[HR.out];rfl,O2.out⟩
theorem dH {K V:Type} [DecidableEq K] {kE:K->Value} {vE:V->Value} {P:Program} {w:World} {ops:Array Oper} {rest:List Oper} {o:Oper} {a:Act} {Q:Exit->Act->World->Prop} (hg:o.guard=none) (m x v:Operand) (t:TypeId) (hop:o.op=Op.insert t m x v)
  (KT ET:TypeId) (O:FZ P KT kE) (ht:P.underlying t=some (.map KT ET)) (b:Nat) (f:K->Option V) (hm:a.eval m=.map (some b)) (h:mI kE vE w b f) (k:K) (hx:a.eval x=kE k) (u:V) (hv:a.eval v=vE u)
  (hK:∀ w',mI kE vE w' b (fun k'=>if k'=k then some u else f k')->Oy [b] w w'->w'.heap.size=w.heap.size->wpList P ops Q rest (a.put o.dst undef) w'):wpList P ops Q (o::rest) a w:=by
 refine wpList_plain hg fun K' hK'=>?_;obtain⟨w',hrun,h1,h2,h3⟩:=vM O ht h k u;unfold Oper.wp;simp only[execOp,hop,hm,hx,hv,Sem.run_bind,hrun,Result.andThen_ok,Sem.run_pure,Oper.upon_skip];exact hK' _ _ (hK w' h1 h2 h3)
def P8 (r:Int × Int):Value:=.agg #[.int .i64 r.1,.int .i64 r.2]
def rgF (k:Int):Option (Int × Int):=
 if k=9 then some (0,1125899906842624) else if k=8 then some (0,0) else if k=7 then some (0,0) else if k=6 then some (0,3) else if k=5 then some (1,15)
 else if k=4 then some (0,0) else if k=3 then some (-1125899906842624,1125899906842624) else if k=2 then some (-1125899906842624,1125899906842624) else if k=1 then some (0,0) else none
theorem pRanges (w:World):Calls Tryz.prog 25 #[] w fun e w'=>e=.returned (.map (some w.heap.size))/\mI (fun n:Int=>Value.int .i64 n) P8 w' w.heap.size rgF/\Oy [] w w':=by
 have hmm:=@run_makeMap Tryz.prog;go_enter Tryz.func25,Tryz.ntmps25
 go_upto_region 1 with (fail)
 refine wp_region_lit ?_;refine wpList_plain rfl fun K hK=>?_;go_simp
 refine hK _ _ ?_;clear hK K hmm;refine aG (G:=fun w0=>wpList _ _ _ _ _ w0) ?_;intro w0 hb0 ho0 hs0;have M0:=aA (qY (kE:=fun n:Int=>Value.int .i64 n) (vE:=P8) hb0);have O0:=aA ho0;clear hb0 ho0 hs0;refine wpList_plain rfl fun K hK=>?_;go_simp
 refine hK _ _ ?_;clear hK K;refine dH (kE:=fun n:Int=>Value.int .i64 n) (vE:=P8) rfl _ _ _ 93 rfl 3 39 (eF Tryz.underlying3) Tryz.underlying93 w.heap.size _ rfl M0.out 1 rfl ((0),(0)) rfl ?_;intro w1 hm1 ho1 hs1;have M1:=aA hm1;have O1:=aA (O0.out.trans ho1 (fun x hx=>.inr (by simp at hx;omega)));clear hm1 ho1 hs1 M0 O0;refine wpList_plain rfl fun K hK=>?_;go_simp
 refine hK _ _ ?_;clear hK K;refine dH (kE:=fun n:Int=>Value.int .i64 n) (vE:=P8) rfl _ _ _ 93 rfl 3 39 (eF Tryz.underlying3) Tryz.underlying93 w.heap.size _ rfl M1.out 2 rfl ((-1125899906842624),(1125899906842624)) rfl ?_;intro w2 hm2 ho2 hs2;have M2:=aA hm2;have O2:=aA (O1.out.trans ho2 (fun x hx=>.inr (by simp at hx;omega)));clear hm2 ho2 hs2 M1 O1;refine wpList_plain rfl fun K hK=>?_;go_simp
 refine hK _ _ ?_;clear hK K;refine dH (kE:=fun n:Int=>Value.int .i64 n) (vE:=P8) rfl _ _ _ 93 rfl 3 39 (eF Tryz.underlying3) Tryz.underlying93 w.heap.size _ rfl M2.out 3 rfl ((-1125899906842624),(1125899906842624)) rfl ?_;intro w3 hm3 ho3 hs3;have M3:=aA hm3;have O3:=aA (O2.out.trans ho3 (fun x hx=>.inr (by simp at hx;omega)));clear hm3 ho3 hs3 M2 O2;refine wpList_plain rfl fun K hK=>?_;go_simp
 refine hK _ _ ?_;clear hK K;refine dH (kE:=fun n:Int=>Value.int .i64 n) (vE:=P8) rfl _ _ _ 93 rfl 3 39 (eF Tryz.underlying3) Tryz.underlying93 w.heap.size _ rfl M3.out 4 rfl ((0),(0)) rfl ?_;intro w4 hm4 ho4 hs4;have M4:=aA hm4;have O4:=aA (O3.out.trans ho4 (fun x hx=>.inr (by simp at hx;omega)));clear hm4 ho4 hs4 M3 O3;refine wpList_plain rfl fun K hK=>?_;go_simp
 refine hK _ _ ?_;clear hK K;refine dH (kE:=fun n:Int=>Value.int .i64 n) (vE:=P8) rfl _ _ _ 93 rfl 3 39 (eF Tryz.underlying3) Tryz.underlying93 w.heap.size _ rfl M4.out 5 rfl ((1),(15)) rfl ?_;intro w5 hm5 ho5 hs5;have M5:=aA hm5;have O5:=aA (O4.out.trans ho5 (fun x hx=>.inr (by simp at hx;omega)));clear hm5 ho5 hs5 M4 O4;refine wpList_plain rfl fun K hK=>?_;go_simp
 refine hK _ _ ?_;clear hK K;refine dH (kE:=fun n:Int=>Value.int .i64 n) (vE:=P8) rfl _ _ _ 93 rfl 3 39 (eF Tryz.underlying3) Tryz.underlying93 w.heap.size _ rfl M5.out 6 rfl ((0),(3)) rfl ?_;intro w6 hm6 ho6 hs6;have M6:=aA hm6;have O6:=aA (O5.out.trans ho6 (fun x hx=>.inr (by simp at hx;omega)));clear hm6 ho6 hs6 M5 O5;refine wpList_plain rfl fun K hK=>?_;go_simp
 refine hK _ _ ?_;clear hK K;refine dH (kE:=fun n:Int=>Value.int .i64 n) (vE:=P8) rfl _ _ _ 93 rfl 3 39 (eF Tryz.underlying3) Tryz.underlying93 w.heap.size _ rfl M6.out 7 rfl ((0),(0)) rfl ?_;intro w7 hm7 ho7 hs7;have M7:=aA hm7;have O7:=aA (O6.out.trans ho7 (fun x hx=>.inr (by simp at hx;omega)));clear hm7 ho7 hs7 M6 O6;refine wpList_plain rfl fun K hK=>?_;go_simp
 refine hK _ _ ?_;clear hK K;refine dH (kE:=fun n:Int=>Value.int .i64 n) (vE:=P8) rfl _ _ _ 93 rfl 3 39 (eF Tryz.underlying3) Tryz.underlying93 w.heap.size _ rfl M7.out 8 rfl ((0),(0)) rfl ?_;intro w8 hm8 ho8 hs8;have M8:=aA hm8;have O8:=aA (O7.out.trans ho8 (fun x hx=>.inr (by simp at hx;omega)));clear hm8 ho8 hs8 M7 O7;refine wpList_plain rfl fun K hK=>?_;go_simp
 refine hK _ _ ?_;clear hK K;refine dH (kE:=fun n:Int=>Value.int .i64 n) (vE:=P8) rfl _ _ _ 93 rfl 3 39 (eF Tryz.underlying3) Tryz.underlying93 w.heap.size _ rfl M8.out 9 rfl ((0),(1125899906842624)) rfl ?_;intro w9 hm9 ho9 hs9;have M9:=aA hm9;have O9:=aA (O8.out.trans ho9 (fun x hx=>.inr (by simp at hx;omega)));clear hm9 ho9 hs9 M8 O8;go_wp2;go_ret
 exact⟨rfl,M9.out,O9.out⟩
def ftC (s:Ft):List Value:=[.int .i64 s.n,.int .i64 s.f,.int .i64 s.t,.int .i64 s.k,.int .i64 s.v]
theorem aU.ft {w wr:World} {cap k:Nat} {p:Option Addr} {l:List Ft} (hv:aU ftC 5 w p l.length cap l) (ho:Oy [] w wr) (hk:k<l.length) :
  ∃ bk off,p=some ⟨bk,off,none⟩/\wr.cell? ⟨bk,off+k*5,none⟩=some (.int .i64 (l.getD k mD).n)/\wr.cell? ⟨bk,off+k*5+1,none⟩=some (.int .i64 (l.getD k mD).f)/\wr.cell? ⟨bk,off+k*5+2,none⟩=some (.int .i64 (l.getD k mD).t)/\wr.cell? ⟨bk,off+k*5+3,none⟩=some (.int .i64 (l.getD k mD).k)/\wr.cell? ⟨bk,off+k*5+4,none⟩=some (.int .i64 (l.getD k mD).v)/\bk<wr.heap.size:=by
 obtain⟨bk,off,hp,hb,hc⟩:=hv.at_ ho (getD_some mD hk);exact⟨bk,off,hp,hc 0 _ rfl,hc 1 _ rfl,hc 2 _ rfl,hc 3 _ rfl,hc 4 _ rfl,hb⟩
theorem rg_some {k:Int} (h:dZ k 1 9=true) (v:Int):∃ r,rgF k=some r/\fits k v=dZ v r.1 r.2:=by
 have hb:=bI.1 h;have hc:k=1\/k=2\/k=3\/k=4\/k=5\/k=6\/k=7\/k=8\/k=9:=by omega
 have hz:decide (v=0)=dZ v 0 0:=by rw[Bool.eq_iff_iff,bI];simp;omega
 rcases hc with rfl|rfl|rfl|rfl|rfl|rfl|rfl|rfl|rfl
 ·exact⟨_,rfl,hz⟩
 ·exact⟨_,rfl,rfl⟩
 ·exact⟨_,rfl,rfl⟩
 ·exact⟨_,rfl,hz⟩
 ·exact⟨_,rfl,rfl⟩
 ·exact⟨_,rfl,rfl⟩
 ·exact⟨_,rfl,hz⟩
 ·exact⟨_,rfl,hz⟩
 ·exact⟨_,rfl,rfl⟩
theorem P6 {k:Int} (h:¬ dZ k 1 9=true):rgF k=none:=by
 have hb:¬ (1<=k/\k<=9):=fun q=>h (bI.2 q);unfold rgF;repeat rw[if_neg (by omega)]
def FcI (w:World) (b:Nat) (l:List Ft) (vi:Value) (wr:World):Prop:=
 ∃ k:Nat,k<=l.length/\vi=.int .i64 k/\fe (fun i=>IU (l.getD i mD)) l.length 0=fe (fun i=>IU (l.getD i mD)) (l.length-k) k/\mI (fun n:Int=>Value.int .i64 n) P8 wr b rgF/\Oy [] w wr
theorem NG {w:World} {p:Option Addr} {n cap:Nat} {l:List Ft} (hv:aU ftC 5 w p n cap l) (hn:n<=100000) :
  Calls Tryz.prog 11 #[.slice p n cap] w fun e w'=>e=.returned (.int .i64 (tX l))/\Oy [] w w':=by
 have hl:=hv.len;subst hl;have HV:=aA hv;clear hv;go_enter Tryz.func11,Tryz.ntmps11
 by_cases h32:32<l.length
 ·have d2:decide ((l.length:Int) > 32)=true:=by simp;omega
  have d3:decide (32<(l.length:Int))=true:=by simp;omega
  have HX:Hid (tX l=6):=aA (by unfold tX;rw[if_pos h32]);go_wp2;go_ret
  exact⟨by rw[HX.out];rfl,aR _ _⟩
 ·have d2 : decide ((l.length:Int) > 32)=false:=by simp;omega
  have d3:decide (32<(l.length:Int))=false:=by simp;omega
  have HX:Hid (tX l=fe (fun i=>IU (l.getD i mD)) l.length 0):=aA (by unfold tX;rw[if_neg h32]);go_wp2_with fail
  refine (pRanges w).mono ?_;rintro e w1 ⟨rfl,hm1,ho1⟩;have M1:=aA hm1;have O1:=aA ho1;clear hm1 ho1;go_wp2;go_loopw [14] (fun vi wr=>FcI w w.heap.size l vi wr) (fun vi _=>l.length-(intOf vi).toNat)
  case atStart=>exact⟨0,Nat.zero_le _,rfl,rfl,M1.out,O1.out⟩
  case round =>
   clear d2 d3;obtain⟨k,hk,rfl,hfe,hm,ho⟩:=hrel;have HF:=aA hfe;have MM:=aA hm;have OO:=aA ho;clear hfe hm ho;by_cases hlt:k<l.length
   ·obtain ⟨bk,off,hp,c0,c1,c2,c3,c4,lb⟩:=HV.out.ft OO.out hlt
    subst hp;have HNO:Hid (∀ r,IU (l.getD k mD)=r->r≠0->tX l=r):=aA (fun r h h'=>by rw[HX.out,HF.out,CX hlt (by rw[h];exact h'),h]);have HYE:Hid (IU (l.getD k mD)=0->fe (fun i=>IU (l.getD i mD)) l.length 0=fe (fun i=>IU (l.getD i mD)) (l.length-(k+1)) (k+1)):=aA (fun h=>by rw[HF.out,uQ hlt h]);generalize l.getD k mD=s at c0 c1 c2 c3 c4 HNO HYE;have hz:=Tryz.zeroValue39;have HZ:=aA hz;clear hz;go_wp2_with (at_lookup;refine aW ?_)
    refine aG (G:=fun w0=>Stop (wpList _ _ _ _ _ w0)) ?_;intro w2 hb2 ho2 hs2;have E2:=aA hb2;have O2:=aA (OO.out.aB ho2);have M2:=aA (MM.out.kept ho2 (by simp));clear hb2 ho2 hs2 c0 c1 c2 c3 c4 lb;refine bH ?_;refine jZ (kE:=fun n:Int=>Value.int .i64 n) (vE:=P8) rfl _ _ 93 true rfl 3 39 (eF Tryz.underlying3) Tryz.underlying93 (.agg #[.int .i64 0,.int .i64 0]) (HZ.out _) w.heap.size rgF rfl M2.out s.k rfl ?_
    have hsome:∃ r1 r2:Int,((rgF s.k).map P8).getD (.agg #[.int .i64 0,.int .i64 0])=.agg #[.int .i64 r1,.int .i64 r2]/\(rgF s.k).isSome=dZ s.k 1 9/\(dZ s.k 1 9=true->fits s.k s.v=dZ s.v r1 r2):=by
     by_cases h:dZ s.k 1 9=true
     ·obtain⟨r,h1,h2⟩:=rg_some h s.v
      exact⟨r.1,r.2,by rw[h1];rfl,by rw[h1,h];rfl,fun _=>h2⟩
     ·refine⟨0,0,by rw[P6 h];rfl,by rw[P6 h];rw[Bool.not_eq_true] at h;rw[h];rfl,fun q=>absurd q h⟩
    obtain⟨r1,r2,hr,hs,hf⟩:=hsome;rw[hr,hs];simp only[if_true];have HFI:=aA hf;clear hr hs hf;go_upto_region 8 with (fail)
    refine aG (G:=fun w0=>Code.wp _ _ _ _ w0) ?_;intro w3 hb3 ho3 hs3;have E3:=aA (ho3.got E2.out (by simp));have O3:=aA (O2.out.aB ho3);have M3:=aA (M2.out.kept ho3 (by simp));have I3:=aA hb3;clear hb3 ho3 hs3 E2 O2 M2;have c0:=aC E3.out 0;have c1:=aC E3.out 1;have c2:=aC E3.out 2;have c4:=aC E3.out 4;have le:=aF E3.out;have i0:=aC I3.out 0;have i1:=aC I3.out 1;have li:=aF I3.out;have hE:IU s=if dZ s.n 0 23=true/\dZ s.f 0 1125899906842624=true/\dZ s.t 0 1125899906842624=true then (if s.t<s.f then 12 else if dZ s.k 1 9=true then (if fits s.k s.v=true then 0 else 3) else 8) else 3:=rfl
    by_cases hn:dZ s.n 0 23=true
    ·obtain⟨hn0,hn1⟩:=bI.1 hn
     have hnx:decide (s.n<0)=false:=by simp;omega
     have hny:decide (s.n >= 24)=false:=by simp;omega
     have hnz:decide (24<=s.n)=false:=by simp;omega
     by_cases hf:dZ s.f 0 1125899906842624=true
     ·obtain⟨hf0,hf1⟩:=bI.1 hf
      have hfx:decide (s.f<0)=false:=by simp;omega
      have hfy:decide (s.f > 1125899906842624)=false:=by simp;omega
      have hfz:decide (1125899906842624<s.f)=false:=by simp;omega
      by_cases ht:dZ s.t 0 1125899906842624=true
      ·obtain⟨ht0,ht1⟩:=bI.1 ht
       have htx:decide (s.t<0)=false:=by simp;omega
       have hty:decide (s.t > 1125899906842624)=false:=by simp;omega
       have htz:decide (1125899906842624<s.t)=false:=by simp;omega
       by_cases ho:s.t<s.f
       ·have ox:decide (s.f > s.t)=true:=by simp;omega
        have oy:decide (s.t<s.f)=true:=by simp;omega
        have HQ:Hid (tX l=12):=aA (HNO.out _ (by rw[hE,if_pos ⟨hn,hf,ht⟩,if_pos ho]) (by decide));clear hE hn hf ht ho;go_wp2;go_ret
        exact⟨by rw[HQ.out];rfl,O3.out⟩
       ·have ox:decide (s.f > s.t)=false:=by simp;omega
        have oy:decide (s.t<s.f)=false:=by simp;omega
        by_cases hk9:dZ s.k 1 9=true
        ·rw[hk9]
         by_cases hv:dZ s.v r1 r2=true
         ·obtain⟨v0,v1⟩:=bI.1 hv
          have vx:decide (s.v<r1)=false:=by simp;omega
          have vy:decide (s.v > r2)=false:=by simp;omega
          have vz:decide (r2<s.v)=false:=by simp;omega
          have HQ:=aA (HYE.out (by rw[hE,if_pos ⟨hn,hf,ht⟩,if_neg ho,if_pos hk9,if_pos (by rw[HFI.out hk9,hv])]));clear hE hn hf ht ho hk9 hv;go_wp2;go_roundw
          case rel=>exact⟨k+1,by omega,by go_num,HQ.out,M3.out,O3.out⟩
          case measure=>first|(simp[intOf];done)|(simp[intOf];omega)
         ·have HQ:Hid (tX l=3):=aA (HNO.out _ (by rw[hE,if_pos ⟨hn,hf,ht⟩,if_neg ho,if_pos hk9,if_neg (by rw[HFI.out hk9];exact hv)]) (by decide))
          rcases kD hv with hq|⟨hq,hr⟩
          ·have vx:decide (s.v<r1)=true:=by simp;omega
           clear hE hn hf ht ho hk9 hv;go_wp2;go_ret
           exact⟨by rw[HQ.out];rfl,O3.out⟩
          ·have vx:decide (s.v<r1)=false:=by simp;omega
           have vy:decide (s.v > r2)=true:=by simp;omega
           have vz:decide (r2<s.v)=true:=by simp;omega
           clear hE hn hf ht ho hk9 hv;go_wp2;go_ret
           exact⟨by rw[HQ.out];rfl,O3.out⟩
        ·have HQ:Hid (tX l=8):=aA (HNO.out _ (by rw[hE,if_pos ⟨hn,hf,ht⟩,if_neg ho,if_neg hk9]) (by decide))
         rw[Bool.not_eq_true] at hk9;rw[hk9];clear hE hn hf ht ho hk9;go_wp2;go_ret
         exact⟨by rw[HQ.out];rfl,O3.out⟩
      ·have HQ:Hid (tX l=3):=aA (HNO.out _ (by rw[hE,if_neg (fun q=>ht q.2.2)]) (by decide))
       rcases kD ht with hq|⟨hq,hr⟩
       ·have htx:decide (s.t<0)=true:=by simp;omega
        clear hE;go_wp2;go_ret
        exact⟨by rw[HQ.out];rfl,O3.out⟩
       ·have htx:decide (s.t<0)=false:=by simp;omega
        have hty:decide (s.t > 1125899906842624)=true:=by simp;omega
        have htz:decide (1125899906842624<s.t)=true:=by simp;omega
        clear hE;go_wp2;go_ret
        exact⟨by rw[HQ.out];rfl,O3.out⟩
     ·have HQ:Hid (tX l=3):=aA (HNO.out _ (by rw[hE,if_neg (fun q=>hf q.2.1)]) (by decide))
      rcases kD hf with hq|⟨hq,hr⟩
      ·have hfx:decide (s.f<0)=true:=by simp;omega
       clear hE;go_wp2;go_ret
       exact⟨by rw[HQ.out];rfl,O3.out⟩
      ·have hfx:decide (s.f<0)=false:=by simp;omega
       have hfy:decide (s.f > 1125899906842624)=true:=by simp;omega
       have hfz:decide (1125899906842624<s.f)=true:=by simp;omega
       clear hE;go_wp2;go_ret
       exact⟨by rw[HQ.out];rfl,O3.out⟩
    ·have HQ:Hid (tX l=3):=aA (HNO.out _ (by rw[hE,if_neg (fun q=>hn q.1)]) (by decide))
     rcases kD hn with hq|⟨hq,hr⟩
     ·have hnx:decide (s.n<0)=true:=by simp;omega
      clear hE;go_wp2;go_ret
      exact⟨by rw[HQ.out];rfl,O3.out⟩
     ·have hnx:decide (s.n<0)=false:=by simp;omega
      have hny:decide (s.n >= 24)=true:=by simp;omega
      have hnz:decide (24<=s.n)=true:=by simp;omega
      clear hE;go_wp2;go_ret
      exact⟨by rw[HQ.out];rfl,O3.out⟩
   ·have HY:Hid (tX l=0):=aA (by rw[HX.out,HF.out,uR (by omega)])
    obtain rfl:k=l.length:=by omega
    go_wp2;go_ret
    exact⟨by rw[HY.out];rfl,OO.out⟩
end Go.Proofs.YtppjhbjmfkiejaaGreat
