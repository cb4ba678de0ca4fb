/- S8 S9 Sa -/
import Derived.Test.YthbgcpfklmlnjaaGreatFAg7
import Derived.Test.YthbgcpfklmlnjaaGreatFV5
import Derived.Test.YthbgcpfklmlnjaaGreatFV1
namespace Go.Proofs.YthbgcpfklmlnjaaGreat
open List (getD_cons_succ getD_cons_zero map_cons map_nil)
set_option maxRecDepth 100000
set_option maxHeartbeats 4000000
open Go.RowKit
open Go.Lib (hid)
section
def eq2 (a b c d:Int):Bool:=a == c && b == d
@[go_sem] theorem a2_equal (a1 a2 b1 b2 : Int) (w:World):(Op.equalIn 10000 45 (.agg #[.int .i64 a1,.int .i64 a2]) (.agg #[.int .i64 b1,.int .i64 b2])).run Tryz.prog w=.ok (eq2 a1 a2 b1 b2) w:=by
 cases hi:Tryz.prog.info? 3 with
 | none => exact absurd (hi.symm.trans rfl) (by have h:(Tryz.prog.info? 3).isSome=true:=by kernel_rfl
                                                rw[hi] at h;cases h)
 | some i =>
   rw[show (10000:Nat)=9999+1 from rfl,run_equalIn_array w 9999 _ _ Tryz.underlying45 hi];have hc:Tryz.prog.cellsOf 3=1:=by kernel_rfl
   rw[hc];unfold eq2;simp[Op.eqItems,go_sem,List.range_succ];by_cases h1:a1=b1<;>by_cases h2:a2=b2<;>simp[h1,h2]
def UE (s:Ch):List Value:=[.int .i64 s.a,.int .i64 s.d,.int .i64 s.y]
theorem aS.ch {w wr:World} {cap k:Nat} {p:Option Addr} {l:List Ch} (hv:aS UE 3 w p l.length cap l) (ho:Only [] w wr) (hk:k<l.length) :
  ∃ bk off,p=some ⟨bk,off,none⟩/\wr.cell? ⟨bk,off+k*3,none⟩=some (.int .i64 (l.getD k CP).a)/\wr.cell? ⟨bk,off+k*3+1,none⟩=some (.int .i64 (l.getD k CP).d)/\wr.cell? ⟨bk,off+k*3+2,none⟩=some (.int .i64 (l.getD k CP).y)/\bk<wr.heap.size:=by
 obtain⟨bk,off,hp,hb,hc⟩:=hv.at_ ho (getD_some CP hk);exact⟨bk,off,hp,hc 0 _ rfl,hc 1 _ rfl,hc 2 _ rfl,hb⟩
theorem clp_b {n:Int}:(mR n == n)=bI n 0 10000000000:=by rw[Bool.eq_iff_iff,beq_iff_eq];exact clp_eq
theorem QH (a b:Int):eq2 (mR a) (mR b) a b=(bI a 0 10000000000 && bI b 0 10000000000):=by unfold eq2;rw[clp_b,clp_b]
def LcI (w1:World) (l:List Ch) (vi:Value) (wr:World):Prop:=
 ∃ k:Nat,k<=l.length/\vi=.int .i64 k/\(l.take k).all tQ=true/\Only [] w1 wr
def LcJ (w1:World) (l:List Ch) (vi:Value) (wr:World):Prop:=
 ∃ k:Nat,1<=k/\vi=.int .i64 k/\fe (chO l) (l.length-1) 1=fe (chO l) (l.length-k) k/\Only [] w1 wr
def MN (l:Lk) (p:Option Addr) (n cap:Nat):Value:=.agg #[.int .i64 l.d0,.int .i64 l.d1,.int .i64 l.v0,.int .i64 l.v1,.int .i64 l.lo,.int .u64 l.sd,.slice p n cap]
theorem PK {w:World} {p:Option Addr} {n cap:Nat} (l:Lk) (hv:aS UE 3 w p n cap l.ch) (hn:n<=100000) :
  Calls Tryz.prog 40 #[MN l p n cap] w fun e w'=>e=.returned (.int .i64 (bV l))/\Only [] w w':=by
 have hl:=hv.len;subst hl;have HV:=hid hv;clear hv;unfold MN;go_enter Tryz.func40,Tryz.ntmps40
 go_upto_region 1 with (fail)
 refine aF (G:=fun w0=>Code.wp _ _ _ _ w0) ?_;intro w1 hb1 ho1 hs1;have B1:=hid hb1;have O1:=hid ho1;clear hb1 ho1 hs1;have g0:=aA B1.out 0;have g1:=aA B1.out 1;have g2:=aA B1.out 2;have g3:=aA B1.out 3;have g4:=aA B1.out 4;have g6:=aA B1.out 6;have l0:=aD B1.out;have hd:=QH l.d0 l.d1;have hvv:=QH l.v0 l.v1;by_cases h1:(bI l.d0 0 10000000000 && bI l.d1 0 10000000000)=true
 ·have q1 : eq2 (mR l.d0) (mR l.d1) l.d0 l.d1=true:=hd.trans h1
  clear hd;by_cases h2:(bI l.v0 0 10000000000 && bI l.v1 0 10000000000)=true
  ·have q2:eq2 (mR l.v0) (mR l.v1) l.v0 l.v1=true:=hvv.trans h2
   clear hvv;by_cases h3:bI l.lo 0 1000=true
   ·obtain⟨p0,p1⟩:=bH.1 h3
    have e1:decide (l.lo<0)=false:=by simp;omega
    have e2:decide (l.lo > 1000)=false:=by simp;omega
    have e3:decide (1000<l.lo)=false:=by simp;omega
    have HR:Hid (bV l=if l.ch.all tQ=true then (if 16<l.ch.length then 6 else fe (chO l.ch) (l.ch.length-1) 1) else 3):=hid (by unfold bV;rw[if_pos (by unfold UD;rw[h1,h2,h3];rfl)]);clear h1 h2 h3;refine aL [0,1,2,3,4,5,6,7,8,9,10,11,12,13,14,15,16,17,18,19,20,21,22,23] [] (by kernel_rfl) (by kernel_rfl) ?_;simp only[pick,map_cons,map_nil,getD_cons_succ,getD_cons_zero];iterate 2 (refine wpQuiet_step (fun K hK=>?_);go_simp;refine hK _ ?_;clear hK K)
    refine aX (by kernel_rfl) 60 #[.agg #[.int .i64 l.d0,.int .i64 l.d1]] (fun _=>by kernel_rfl) (.agg #[.int .i64 (mR l.d0),.int .i64 (mR l.d1)]) (bM fun w' ho'=>kU _ _ w') ?_;iterate 3 (refine wpQuiet_step (fun K hK=>?_);go_simp;refine hK _ ?_;clear hK K)
    repeat (go_big_quiet_step (fail))
    refine aX (by kernel_rfl) 60 #[.agg #[.int .i64 l.v0,.int .i64 l.v1]] (fun _=>by kernel_rfl) (.agg #[.int .i64 (mR l.v0),.int .i64 (mR l.v1)]) (bM fun w' ho'=>kU _ _ w') ?_;iterate 3 (refine wpQuiet_step (fun K hK=>?_);go_simp;refine hK _ ?_;clear hK K)
    repeat (go_big_quiet_step (fail))
    refine wpQuiet_nil ?_;intro w2 hw2;have O2:=hid (O1.out.aB (aI hw2));have B2:=hid ((aI hw2).got B1.out (by simp));clear hw2 g0 g1 g2 g3 g4 g6 l0;clear e1 e2 e3 p0 p1 q1 q2;have g6:=aA B2.out 6;have l0:=aD B2.out;go_wp2;go_loopw [33] (fun vi wr=>LcI w2 l.ch vi wr) (fun vi _=>l.ch.length-(intOf vi).toNat)
    case atStart=>exact⟨0,Nat.zero_le _,rfl,rfl,Only.refl _ _⟩
    case round =>
     clear g6 l0;obtain⟨k,hk,rfl,hall,ho⟩:=hrel;have HA:=hid hall;have OO:=hid ho;have OA:=hid (O2.out.aB ho);have B3:=hid (ho.got B2.out (by simp));clear hall ho;by_cases hlt:k<l.ch.length
     ·obtain⟨bk,off,hp,c0,c1,c2,lb⟩:=HV.out.ch OA.out hlt
      subst hp;have hgk:=getD_some CP hlt;have hmem:=List.mem_of_getElem? hgk;have htk:(l.ch.take (k+1)).all tQ=tQ (l.ch.getD k CP):=by rw[List.take_add_one,hgk];simp[List.all_append,HA.out]
      have HNO:Hid (tQ (l.ch.getD k CP)=false->bV l=3):=hid (fun h=>by rw[HR.out,if_neg (fun hq=>by rw[List.all_eq_true] at hq;rw[hq _ hmem] at h;cases h)]);generalize l.ch.getD k CP=c at c0 c1 c2 htk HNO hgk hmem;have HTK:=hid htk;clear hgk hmem htk;go_upto_region 6 with (fail)
      refine aF (G:=fun w0=>Code.wp _ _ _ _ w0) ?_;intro w4 hb4 ho4 hs4;have E4:=hid hb4;have O4:=hid (OO.out.aB ho4);have OB:=hid (OA.out.aB ho4);clear hb4 ho4 hs4 c0 c1 c2 lb;have c0:=aA E4.out 0;have c1:=aA E4.out 1;have c2:=aA E4.out 2;have le:=aD E4.out;go_wp2_with fail
      refine (VG c.a w4).mono ?_;rintro e w5 ⟨rfl,rfl⟩;by_cases ha:bI c.a 0 1125899906842624=true
      ·rw [ha]
       go_wp2_with fail
       refine (pDir c.d w4).mono ?_;rintro e w5 ⟨rfl,rfl⟩;by_cases hd:bI c.d 0 1=true
       ·rw[hd]
        by_cases hy:bI c.y 0 10000000000=true
        ·obtain⟨p0,p1⟩:=bH.1 hy
         have e1:decide (c.y<0)=false:=by simp;omega
         have e2:decide (c.y > 10000000000)=false:=by simp;omega
         have e3:decide (10000000000<c.y)=false:=by simp;omega
         have HX:=hid (HTK.out.trans (show tQ c=true by unfold tQ;rw[ha,hd,hy];rfl));clear ha hd hy;go_wp2;go_roundw
         case rel=>exact⟨k+1,by omega,by go_num,HX.out,O4.out⟩
         case measure=>first|(simp[intOf];done)|(simp[intOf];omega)
        ·have HX:=hid (HNO.out (show tQ c=false by unfold tQ;rw[Bool.not_eq_true] at hy;rw[ha,hd,hy];rfl))
         rcases dP hy with hq|⟨hq,hr⟩
         ·have e1:decide (c.y<0)=true:=by simp;omega
          clear ha hd hy;go_wp2;go_ret
          exact⟨by rw[HX.out];rfl,OB.out⟩
         ·have e1:decide (c.y<0)=false:=by simp;omega
          have e2:decide (c.y > 10000000000)=true:=by simp;omega
          have e3:decide (10000000000<c.y)=true:=by simp;omega
          clear ha hd hy;go_wp2;go_ret
          exact⟨by rw[HX.out];rfl,OB.out⟩
       ·rw[Bool.not_eq_true] at hd
        rw[hd];have HX:=hid (HNO.out (show tQ c=false by unfold tQ;rw[ha,hd];rfl));clear ha hd;go_wp2;go_ret
        exact⟨by rw[HX.out];rfl,OB.out⟩
      ·rw[Bool.not_eq_true] at ha
       rw[ha];have HX:=hid (HNO.out (show tQ c=false by unfold tQ;rw[ha];rfl));clear ha;go_wp2;go_ret
       exact⟨by rw[HX.out];rfl,OB.out⟩
     ·obtain rfl:k=l.ch.length:=by omega
      have hal:=HA.out;rw[List.take_of_length_le (Nat.le_refl _)] at hal;have hr2:=HR.out;rw[if_pos hal] at hr2;have g6:=aA B3.out 6;have l0:=aD B3.out;by_cases h16:16<l.ch.length
      ·have d2:decide ((l.ch.length:Int) > 16)=true:=by simp;omega
       have d3:decide (16<(l.ch.length:Int))=true:=by simp;omega
       have HX:Hid (bV l=6):=hid (by rw[hr2,if_pos h16]);clear hr2 hal;go_wp2;go_ret
       exact⟨by rw[HX.out];rfl,OA.out⟩
      ·have d2:decide ((l.ch.length:Int) > 16)=false:=by simp;omega
       have d3:decide (16<(l.ch.length:Int))=false:=by simp;omega
       have HX:Hid (bV l=fe (chO l.ch) (l.ch.length-1) 1):=hid (by rw[hr2,if_neg h16]);clear hr2 hal;obtain⟨wo,hwo⟩:∃ wo:World,wo=wr:=⟨_,rfl⟩;subst hwo;go_wp2;go_loopw [5] (fun vi wr=>LcJ wo l.ch vi wr) (fun vi _=>l.ch.length-(intOf vi).toNat)
       case atStart=>exact⟨1,Nat.le_refl _,rfl,rfl,Only.refl _ _⟩
       case round =>
        clear g6 l0 d2 d3;obtain⟨k,hk,rfl,hfe,ho⟩:=hrel;have HF:=hid hfe;have OO':=hid ho;have OA':=hid (OA.out.aB ho);have B4:=hid (ho.got B3.out (by simp));clear hfe ho;have g6:=aA B4.out 6;have l0:=aD B4.out;by_cases hlt:k<l.ch.length
        ·obtain⟨bk,off,hp,c0,c1,c2,lb⟩:=HV.out.ch OA'.out hlt
         obtain⟨bk',off',hp',p0,p1,p2,lb'⟩:=HV.out.ch OA'.out (show k-1<l.ch.length by omega);subst hp
         cases hp'
         clear p1 p2 lb' c1 c2;have hE:chO l.ch k=if (l.ch.getD k CP).a<(l.ch.getD (k-1) CP).a then 12 else 0:=rfl
         generalize l.ch.getD k CP=s at c0 hE;generalize l.ch.getD (k-1) CP=t at p0 hE;have hi1:(1:Int)<=(k:Int):=by omega
         have hi2:(k:Int)-1<(l.ch.length:Int):=by omega
         have hi3:IntKind.i64.wrap ((k:Int)-1)=(k:Int)-1:=IntWalk.i64_in _ (by omega);have hi4:((k:Int)-1).toNat=k-1:=by omega
         by_cases hc:s.a<t.a
         ·have z1:decide (s.a<t.a)=true:=by simp[hc]
          rw[if_pos hc] at hE;have HY:Hid (bV l=12):=hid (by rw[HX.out,HF.out,mG hlt (by rw[hE];decide),hE]);clear hE hc;go_wp2_with fail
          go_quiet (fail)
          go_wp2;go_ret
          exact⟨by rw[HY.out];rfl,OA'.out.aB (dY _ _)⟩
         ·have z1:decide (s.a<t.a)=false:=by simpa using hc
          rw[if_neg hc] at hE;have HY:=hid (HF.out.trans (iQ hlt hE));clear hE hc;go_wp2_with fail
          go_quiet (fail)
          clear hi3 hi4;go_wp2;go_roundw
          case rel=>exact⟨k+1,by omega,by go_num,HY.out,OO'.out.aB (dY _ _)⟩
          case measure=>first|(simp[intOf];done)|(simp[intOf];omega)
        ·have HY:Hid (bV l=0):=hid (by rw[HX.out,HF.out,iR (by omega)])
         have n1:decide ((k:Int)<(l.ch.length:Int))=false:=by simp;omega
         have n2:decide (k<l.ch.length)=false:=by simp;omega
         go_wp2;go_ret
         exact⟨by rw[HY.out];rfl,OA'.out⟩
   ·have e0:=h3
    rw[Bool.not_eq_true] at e0;rcases dP h3 with hq|⟨hq,hr⟩
    focus
     have e1:decide (l.lo<0)=true:=by simp;omega
    rotate_left
    focus
     have e1:decide (l.lo<0)=false:=by simp;omega
     have e2:decide (l.lo > 1000)=true:=by simp;omega
     have e3:decide (1000<l.lo)=true:=by simp;omega
    rotate_left
    all_goals
     have HR:Hid (bV l=3):=hid (by unfold bV;rw[if_neg (by unfold UD;rw[e0];simp)]);refine aL [0,1,2,3,4,5,6,7,8,9,10,11,12,13,14,15,16,17,18,19,20,21,22,23] [] (by kernel_rfl) (by kernel_rfl) ?_;simp only[pick,map_cons,map_nil,getD_cons_succ,getD_cons_zero];iterate 2 (refine wpQuiet_step (fun K hK=>?_);go_simp;refine hK _ ?_;clear hK K)
     refine aX (by kernel_rfl) 60 #[.agg #[.int .i64 l.d0,.int .i64 l.d1]] (fun _=>by kernel_rfl) (.agg #[.int .i64 (mR l.d0),.int .i64 (mR l.d1)]) (bM fun w' ho'=>kU _ _ w') ?_;iterate 3 (refine wpQuiet_step (fun K hK=>?_);go_simp;refine hK _ ?_;clear hK K)
     repeat (go_big_quiet_step (fail))
     refine aX (by kernel_rfl) 60 #[.agg #[.int .i64 l.v0,.int .i64 l.v1]] (fun _=>by kernel_rfl) (.agg #[.int .i64 (mR l.v0),.int .i64 (mR l.v1)]) (bM fun w' ho'=>kU _ _ w') ?_;iterate 3 (refine wpQuiet_step (fun K hK=>?_);go_simp;refine hK _ ?_;clear hK K)
     repeat (go_big_quiet_step (fail))
     refine wpQuiet_nil ?_;intro w2 hw2;have O2:=hid (O1.out.aB (aI hw2));have B2:=hid ((aI hw2).got B1.out (by simp));clear hw2 g0 g1 g2 g3 g4 g6 l0;go_wp2;go_ret
     exact⟨by rw[HR.out];rfl,O2.out⟩
  ·rw[Bool.not_eq_true] at h2
   have q2:eq2 (mR l.v0) (mR l.v1) l.v0 l.v1=false:=hvv.trans h2;clear hvv;have HR:Hid (bV l=3):=hid (by unfold bV;rw[if_neg (by unfold UD;rw[h2];simp)]);refine aL [0,1,2,3,4,5,6,7,8,9,10,11,12,13,14,15,16,17,18,19,20,21,22,23] [] (by kernel_rfl) (by kernel_rfl) ?_;simp only[pick,map_cons,map_nil,getD_cons_succ,getD_cons_zero];iterate 2 (refine wpQuiet_step (fun K hK=>?_);go_simp;refine hK _ ?_;clear hK K)
   refine aX (by kernel_rfl) 60 #[.agg #[.int .i64 l.d0,.int .i64 l.d1]] (fun _=>by kernel_rfl) (.agg #[.int .i64 (mR l.d0),.int .i64 (mR l.d1)]) (bM fun w' ho'=>kU _ _ w') ?_;iterate 3 (refine wpQuiet_step (fun K hK=>?_);go_simp;refine hK _ ?_;clear hK K)
   repeat (go_big_quiet_step (fail))
   refine aX (by kernel_rfl) 60 #[.agg #[.int .i64 l.v0,.int .i64 l.v1]] (fun _=>by kernel_rfl) (.agg #[.int .i64 (mR l.v0),.int .i64 (mR l.v1)]) (bM fun w' ho'=>kU _ _ w') ?_;iterate 3 (refine wpQuiet_step (fun K hK=>?_);go_simp;refine hK _ ?_;clear hK K)
   repeat (go_big_quiet_step (fail))
   refine wpQuiet_nil ?_;intro w2 hw2;have O2:=hid (O1.out.aB (aI hw2));have B2:=hid ((aI hw2).got B1.out (by simp));clear hw2 g0 g1 g2 g3 g4 g6 l0;go_wp2;go_ret
   exact⟨by rw[HR.out];rfl,O2.out⟩
 ·rw[Bool.not_eq_true] at h1
  have q1:eq2 (mR l.d0) (mR l.d1) l.d0 l.d1=false:=hd.trans h1;clear hd hvv;have HR:Hid (bV l=3):=hid (by unfold bV;rw[if_neg (by unfold UD;rw[h1];simp)]);refine aL [0,1,2,3,4,5,6,7,8,9,10,11,12,13,14,15,16,17,18,19,20,21,22,23] [] (by kernel_rfl) (by kernel_rfl) ?_;simp only[pick,map_cons,map_nil,getD_cons_succ,getD_cons_zero];iterate 2 (refine wpQuiet_step (fun K hK=>?_);go_simp;refine hK _ ?_;clear hK K)
  refine aX (by kernel_rfl) 60 #[.agg #[.int .i64 l.d0,.int .i64 l.d1]] (fun _=>by kernel_rfl) (.agg #[.int .i64 (mR l.d0),.int .i64 (mR l.d1)]) (bM fun w' ho'=>kU _ _ w') ?_;iterate 3 (refine wpQuiet_step (fun K hK=>?_);go_simp;refine hK _ ?_;clear hK K)
  repeat (go_big_quiet_step (fail))
  refine wpQuiet_nil ?_;intro w2 hw2;have O2:=hid (O1.out.aB (aI hw2));have B2:=hid ((aI hw2).got B1.out (by simp));clear hw2 g0 g1 g2 g3 g4 g6 l0;go_wp2;go_ret
  exact⟨by rw[HR.out];rfl,O2.out⟩
end
section
theorem dB {K V:Type} [DecidableEq K] {kE:K->Value} {vE:V->Value} {P:Program} {w:World} {ops:Array Oper} {rest:List Oper} {o:Oper} {a:Act} {Q:Exit->Act->World->Prop} (hg:o.guard=none) (m x v:Operand) (t:TypeId) (hop:o.op=Op.insert t m x v)
  (KT ET:TypeId) (O:FE P KT kE) (ht:P.underlying t=some (.map KT ET)) (b:Nat) (f:K->Option V) (hm:a.eval m=.map (some b)) (h:pV kE vE w b f) (k:K) (hx:a.eval x=kE k) (u:V) (hv:a.eval v=vE u)
  (hK:∀ w',pV kE vE w' b (fun k'=>if k'=k then some u else f k')->Only [b] w w'->w'.heap.size=w.heap.size->wpList P ops Q rest (a.put o.dst undef) w'):wpList P ops Q (o::rest) a w:=by
 refine wpList_plain hg fun K' hK'=>?_;obtain⟨w',hrun,h1,h2,h3⟩:=uQ O ht h k u;unfold Oper.wp;simp only[execOp,hop,hm,hx,hv,Sem.run_bind,hrun,Result.andThen_ok,Sem.run_pure,Oper.upon_skip];exact hK' _ _ (hK w' h1 h2 h3)
def N9 (r:Int × Int):Value:=.agg #[.int .i64 r.1,.int .i64 r.2]
def rgF (k:Int):Option (Int × Int):=
 if k=9 then some (0,1125899906842624) else if k=8 then some (0,0) else if k=7 then some (0,0) else if k=6 then some (0,3) else if k=5 then some (1,15)
 else if k=4 then some (0,0) else if k=3 then some (-1125899906842624,1125899906842624) else if k=2 then some (-1125899906842624,1125899906842624) else if k=1 then some (0,0) else none
theorem pRanges (w:World):Calls Tryz.prog 41 #[] w fun e w'=>e=.returned (.map (some w.heap.size))/\pV (fun n:Int=>Value.int .i64 n) N9 w' w.heap.size rgF/\Only [] w w':=by
 have hmm:=@run_makeMap Tryz.prog;go_enter Tryz.func41,Tryz.ntmps41
 go_upto_region 1 with (fail)
 refine wp_region_lit ?_;refine wpList_plain rfl fun K hK=>?_;go_simp
 refine hK _ _ ?_;clear hK K hmm;refine aF (G:=fun w0=>wpList _ _ _ _ _ w0) ?_;intro w0 hb0 ho0 hs0;have M0:=hid (BL (kE:=fun n:Int=>Value.int .i64 n) (vE:=N9) hb0);have O0:=hid ho0;clear hb0 ho0 hs0;refine wpList_plain rfl fun K hK=>?_;go_simp
 refine hK _ _ ?_;clear hK K;refine dB (kE:=fun n:Int=>Value.int .i64 n) (vE:=N9) rfl _ _ _ 109 rfl 3 33 (fD Tryz.underlying3) Tryz.underlying109 w.heap.size _ rfl M0.out 1 rfl ((0),(0)) rfl ?_;intro w1 hm1 ho1 hs1;have M1:=hid hm1;have O1:=hid (O0.out.trans ho1 (fun x hx=>.inr (by simp at hx;omega)));clear hm1 ho1 hs1 M0 O0;refine wpList_plain rfl fun K hK=>?_;go_simp
 refine hK _ _ ?_;clear hK K;refine dB (kE:=fun n:Int=>Value.int .i64 n) (vE:=N9) rfl _ _ _ 109 rfl 3 33 (fD Tryz.underlying3) Tryz.underlying109 w.heap.size _ rfl M1.out 2 rfl ((-1125899906842624),(1125899906842624)) rfl ?_;intro w2 hm2 ho2 hs2;have M2:=hid hm2;have O2:=hid (O1.out.trans ho2 (fun x hx=>.inr (by simp at hx;omega)));clear hm2 ho2 hs2 M1 O1;refine wpList_plain rfl fun K hK=>?_;go_simp
 refine hK _ _ ?_;clear hK K;refine dB (kE:=fun n:Int=>Value.int .i64 n) (vE:=N9) rfl _ _ _ 109 rfl 3 33 (fD Tryz.underlying3) Tryz.underlying109 w.heap.size _ rfl M2.out 3 rfl ((-1125899906842624),(1125899906842624)) rfl ?_;intro w3 hm3 ho3 hs3;have M3:=hid hm3;have O3:=hid (O2.out.trans ho3 (fun x hx=>.inr (by simp at hx;omega)));clear hm3 ho3 hs3 M2 O2;refine wpList_plain rfl fun K hK=>?_;go_simp
 refine hK _ _ ?_;clear hK K;refine dB (kE:=fun n:Int=>Value.int .i64 n) (vE:=N9) rfl _ _ _ 109 rfl 3 33 (fD Tryz.underlying3) Tryz.underlying109 w.heap.size _ rfl M3.out 4 rfl ((0),(0)) rfl ?_;intro w4 hm4 ho4 hs4;have M4:=hid hm4;have O4:=hid (O3.out.trans ho4 (fun x hx=>.inr (by simp at hx;omega)));clear hm4 ho4 hs4 M3 O3;refine wpList_plain rfl fun K hK=>?_;go_simp
 refine hK _ _ ?_;clear hK K;refine dB (kE:=fun n:Int=>Value.int .i64 n) (vE:=N9) rfl _ _ _ 109 rfl 3 33 (fD Tryz.underlying3) Tryz.underlying109 w.heap.size _ rfl M4.out 5 rfl ((1),(15)) rfl ?_;intro w5 hm5 ho5 hs5;have M5:=hid hm5;have O5:=hid (O4.out.trans ho5 (fun x hx=>.inr (by simp at hx;omega)));clear hm5 ho5 hs5 M4 O4;refine wpList_plain rfl fun K hK=>?_;go_simp
 refine hK _ _ ?_;clear hK K;refine dB (kE:=fun n:Int=>Value.int .i64 n) (vE:=N9) rfl _ _ _ 109 rfl 3 33 (fD Tryz.underlying3) Tryz.underlying109 w.heap.size _ rfl M5.out 6 rfl ((0),(3)) rfl ?_;intro w6 hm6 ho6 hs6;have M6:=hid hm6;have O6:=hid (O5.out.trans ho6 (fun x hx=>.inr (by simp at hx;omega)));clear hm6 ho6 hs6 M5 O5;refine wpList_plain rfl fun K hK=>?_;go_simp
 refine hK _ _ ?_;clear hK K;refine dB (kE:=fun n:Int=>Value.int .i64 n) (vE:=N9) rfl _ _ _ 109 rfl 3 33 (fD Tryz.underlying3) Tryz.underlying109 w.heap.size _ rfl M6.out 7 rfl ((0),(0)) rfl ?_;intro w7 hm7 ho7 hs7;have M7:=hid hm7;have O7:=hid (O6.out.trans ho7 (fun x hx=>.inr (by simp at hx;omega)));clear hm7 ho7 hs7 M6 O6;refine wpList_plain rfl fun K hK=>?_;go_simp
 refine hK _ _ ?_;clear hK K;refine dB (kE:=fun n:Int=>Value.int .i64 n) (vE:=N9) rfl _ _ _ 109 rfl 3 33 (fD Tryz.underlying3) Tryz.underlying109 w.heap.size _ rfl M7.out 8 rfl ((0),(0)) rfl ?_;intro w8 hm8 ho8 hs8;have M8:=hid hm8;have O8:=hid (O7.out.trans ho8 (fun x hx=>.inr (by simp at hx;omega)));clear hm8 ho8 hs8 M7 O7;refine wpList_plain rfl fun K hK=>?_;go_simp
 refine hK _ _ ?_;clear hK K;refine dB (kE:=fun n:Int=>Value.int .i64 n) (vE:=N9) rfl _ _ _ 109 rfl 3 33 (fD Tryz.underlying3) Tryz.underlying109 w.heap.size _ rfl M8.out 9 rfl ((0),(1125899906842624)) rfl ?_;intro w9 hm9 ho9 hs9;have M9:=hid hm9;have O9:=hid (O8.out.trans ho9 (fun x hx=>.inr (by simp at hx;omega)));clear hm9 ho9 hs9 M8 O8;go_wp2;go_ret
 exact⟨rfl,M9.out,O9.out⟩
end
section
def ftC (s:Ft):List Value:=[.int .i64 s.n,.int .i64 s.f,.int .i64 s.t,.int .i64 s.k,.int .i64 s.v]
theorem aS.ft {w wr:World} {cap k:Nat} {p:Option Addr} {l:List Ft} (hv:aS ftC 5 w p l.length cap l) (ho:Only [] w wr) (hk:k<l.length) :
  ∃ bk off,p=some ⟨bk,off,none⟩/\wr.cell? ⟨bk,off+k*5,none⟩=some (.int .i64 (l.getD k iT).n)/\wr.cell? ⟨bk,off+k*5+1,none⟩=some (.int .i64 (l.getD k iT).f)/\wr.cell? ⟨bk,off+k*5+2,none⟩=some (.int .i64 (l.getD k iT).t)/\wr.cell? ⟨bk,off+k*5+3,none⟩=some (.int .i64 (l.getD k iT).k)/\wr.cell? ⟨bk,off+k*5+4,none⟩=some (.int .i64 (l.getD k iT).v)/\bk<wr.heap.size:=by
 obtain⟨bk,off,hp,hb,hc⟩:=hv.at_ ho (getD_some iT hk);exact⟨bk,off,hp,hc 0 _ rfl,hc 1 _ rfl,hc 2 _ rfl,hc 3 _ rfl,hc 4 _ rfl,hb⟩
theorem rg_some {k:Int} (h:bI k 1 9=true) (v:Int):∃ r,rgF k=some r/\fits k v=bI v r.1 r.2:=by
 have hb:=bH.1 h;have hc:k=1\/k=2\/k=3\/k=4\/k=5\/k=6\/k=7\/k=8\/k=9:=by omega
 have hz:decide (v=0)=bI v 0 0:=by rw[Bool.eq_iff_iff,bH];simp;omega
 rcases hc with rfl|rfl|rfl|rfl|rfl|rfl|rfl|rfl|rfl
 ·exact⟨_,rfl,hz⟩
 ·exact⟨_,rfl,rfl⟩
 ·exact⟨_,rfl,rfl⟩
 ·exact⟨_,rfl,hz⟩
 ·exact⟨_,rfl,rfl⟩
 ·exact⟨_,rfl,rfl⟩
 ·exact⟨_,rfl,hz⟩
 ·exact⟨_,rfl,hz⟩
 ·exact⟨_,rfl,rfl⟩
theorem N8 {k:Int} (h:¬ bI k 1 9=true):rgF k=none:=by
 have hb:¬ (1<=k/\k<=9):=fun q=>h (bH.2 q);unfold rgF;repeat rw[if_neg (by omega)]
def FcI (w:World) (b:Nat) (l:List Ft) (vi:Value) (wr:World):Prop:=
 ∃ k:Nat,k<=l.length/\vi=.int .i64 k/\fe (fun i=>xI (l.getD i iT)) l.length 0=fe (fun i=>xI (l.getD i iT)) (l.length-k) k/\pV (fun n:Int=>Value.int .i64 n) N9 wr b rgF/\Only [] w wr
theorem XQ {w:World} {p:Option Addr} {n cap:Nat} {l:List Ft} (hv:aS ftC 5 w p n cap l) (hn:n<=100000) :
  Calls Tryz.prog 25 #[.slice p n cap] w fun e w'=>e=.returned (.int .i64 (lS l))/\Only [] w w':=by
 have hl:=hv.len;subst hl;have HV:=hid hv;clear hv;go_enter Tryz.func25,Tryz.ntmps25
 by_cases h32:32<l.length
 ·have d2:decide ((l.length:Int) > 32)=true:=by simp;omega
  have d3:decide (32<(l.length:Int))=true:=by simp;omega
  have HX:Hid (lS l=6):=hid (by unfold lS;rw[if_pos h32]);go_wp2;go_ret
  exact⟨by rw[HX.out];rfl,Only.refl _ _⟩
 ·have d2 : decide ((l.length:Int) > 32)=false:=by simp;omega
  have d3:decide (32<(l.length:Int))=false:=by simp;omega
  have HX:Hid (lS l=fe (fun i=>xI (l.getD i iT)) l.length 0):=hid (by unfold lS;rw[if_neg h32]);go_wp2_with fail
  refine (pRanges w).mono ?_;rintro e w1 ⟨rfl,hm1,ho1⟩;have M1:=hid hm1;have O1:=hid ho1;clear hm1 ho1;go_wp2;go_loopw [14] (fun vi wr=>FcI w w.heap.size l vi wr) (fun vi _=>l.length-(intOf vi).toNat)
  case atStart=>exact⟨0,Nat.zero_le _,rfl,rfl,M1.out,O1.out⟩
  case round =>
   clear d2 d3;obtain⟨k,hk,rfl,hfe,hm,ho⟩:=hrel;have HF:=hid hfe;have MM:=hid hm;have OO:=hid ho;clear hfe hm ho;by_cases hlt:k<l.length
   ·obtain ⟨bk,off,hp,c0,c1,c2,c3,c4,lb⟩:=HV.out.ft OO.out hlt
    subst hp;have HNO:Hid (∀ r,xI (l.getD k iT)=r->r≠0->lS l=r):=hid (fun r h h'=>by rw[HX.out,HF.out,mG hlt (by rw[h];exact h'),h]);have HYE:Hid (xI (l.getD k iT)=0->fe (fun i=>xI (l.getD i iT)) l.length 0=fe (fun i=>xI (l.getD i iT)) (l.length-(k+1)) (k+1)):=hid (fun h=>by rw[HF.out,iQ hlt h]);generalize l.getD k iT=s at c0 c1 c2 c3 c4 HNO HYE;have hz:=Tryz.zeroValue33;have HZ:=hid hz;clear hz;go_wp2_with (at_lookup;refine bD ?_)
    refine aF (G:=fun w0=>Stop (wpList _ _ _ _ _ w0)) ?_;intro w2 hb2 ho2 hs2;have E2:=hid hb2;have O2:=hid (OO.out.aB ho2);have M2:=hid (MM.out.kept ho2 (by simp));clear hb2 ho2 hs2 c0 c1 c2 c3 c4 lb;refine cK ?_;refine fM (kE:=fun n:Int=>Value.int .i64 n) (vE:=N9) rfl _ _ 109 true rfl 3 33 (fD Tryz.underlying3) Tryz.underlying109 (.agg #[.int .i64 0,.int .i64 0]) (HZ.out _) w.heap.size rgF rfl M2.out s.k rfl ?_
    have hsome:∃ r1 r2:Int,((rgF s.k).map N9).getD (.agg #[.int .i64 0,.int .i64 0])=.agg #[.int .i64 r1,.int .i64 r2]/\(rgF s.k).isSome=bI s.k 1 9/\(bI s.k 1 9=true->fits s.k s.v=bI s.v r1 r2):=by
     by_cases h:bI s.k 1 9=true
     ·obtain⟨r,h1,h2⟩:=rg_some h s.v
      exact⟨r.1,r.2,by rw[h1];rfl,by rw[h1,h];rfl,fun _=>h2⟩
     ·refine⟨0,0,by rw[N8 h];rfl,by rw[N8 h];rw[Bool.not_eq_true] at h;rw[h];rfl,fun q=>absurd q h⟩
    obtain⟨r1,r2,hr,hs,hf⟩:=hsome;rw[hr,hs];simp only[if_true];have HFI:=hid hf;clear hr hs hf;go_upto_region 8 with (fail)
    refine aF (G:=fun w0=>Code.wp _ _ _ _ w0) ?_;intro w3 hb3 ho3 hs3;have E3:=hid (ho3.got E2.out (by simp));have O3:=hid (O2.out.aB ho3);have M3:=hid (M2.out.kept ho3 (by simp));have I3:=hid hb3;clear hb3 ho3 hs3 E2 O2 M2;have c0:=aA E3.out 0;have c1:=aA E3.out 1;have c2:=aA E3.out 2;have c4:=aA E3.out 4;have le:=aD E3.out;have i0:=aA I3.out 0;have i1:=aA I3.out 1;have li:=aD I3.out;have hE:xI s=if bI s.n 0 23=true/\bI s.f 0 1125899906842624=true/\bI s.t 0 1125899906842624=true then (if s.t<s.f then 12 else if bI s.k 1 9=true then (if fits s.k s.v=true then 0 else 3) else 8) else 3:=rfl
    by_cases hn:bI s.n 0 23=true
    ·obtain⟨hn0,hn1⟩:=bH.1 hn
     have hnx:decide (s.n<0)=false:=by simp;omega
     have hny:decide (s.n >= 24)=false:=by simp;omega
     have hnz:decide (24<=s.n)=false:=by simp;omega
     by_cases hf:bI s.f 0 1125899906842624=true
     ·obtain⟨hf0,hf1⟩:=bH.1 hf
      have hfx:decide (s.f<0)=false:=by simp;omega
      have hfy:decide (s.f > 1125899906842624)=false:=by simp;omega
      have hfz:decide (1125899906842624<s.f)=false:=by simp;omega
      by_cases ht:bI s.t 0 1125899906842624=true
      ·obtain⟨ht0,ht1⟩:=bH.1 ht
       have htx:decide (s.t<0)=false:=by simp;omega
       have hty:decide (s.t > 1125899906842624)=false:=by simp;omega
       have htz:decide (1125899906842624<s.t)=false:=by simp;omega
       by_cases ho:s.t<s.f
       ·have ox:decide (s.f > s.t)=true:=by simp;omega
        have oy:decide (s.t<s.f)=true:=by simp;omega
        have HQ:Hid (lS l=12):=hid (HNO.out _ (by rw[hE,if_pos ⟨hn,hf,ht⟩,if_pos ho]) (by decide));clear hE hn hf ht ho;go_wp2;go_ret
        exact⟨by rw[HQ.out];rfl,O3.out⟩
       ·have ox:decide (s.f > s.t)=false:=by simp;omega
        have oy:decide (s.t<s.f)=false:=by simp;omega
        by_cases hk9:bI s.k 1 9=true
        ·rw[hk9]
         by_cases hv:bI s.v r1 r2=true
         ·obtain⟨v0,v1⟩:=bH.1 hv
          have vx:decide (s.v<r1)=false:=by simp;omega
          have vy:decide (s.v > r2)=false:=by simp;omega
          have vz:decide (r2<s.v)=false:=by simp;omega
          have HQ:=hid (HYE.out (by rw[hE,if_pos ⟨hn,hf,ht⟩,if_neg ho,if_pos hk9,if_pos (by rw[HFI.out hk9,hv])]));clear hE hn hf ht ho hk9 hv;go_wp2;go_roundw
          case rel=>exact⟨k+1,by omega,by go_num,HQ.out,M3.out,O3.out⟩
          case measure=>first|(simp[intOf];done)|(simp[intOf];omega)
         ·have HQ:Hid (lS l=3):=hid (HNO.out _ (by rw[hE,if_pos ⟨hn,hf,ht⟩,if_neg ho,if_pos hk9,if_neg (by rw[HFI.out hk9];exact hv)]) (by decide))
          rcases dP hv with hq|⟨hq,hr⟩
          ·have vx:decide (s.v<r1)=true:=by simp;omega
           clear hE hn hf ht ho hk9 hv;go_wp2;go_ret
           exact⟨by rw[HQ.out];rfl,O3.out⟩
          ·have vx:decide (s.v<r1)=false:=by simp;omega
           have vy:decide (s.v > r2)=true:=by simp;omega
           have vz:decide (r2<s.v)=true:=by simp;omega
           clear hE hn hf ht ho hk9 hv;go_wp2;go_ret
           exact⟨by rw[HQ.out];rfl,O3.out⟩
        ·have HQ:Hid (lS l=8):=hid (HNO.out _ (by rw[hE,if_pos ⟨hn,hf,ht⟩,if_neg ho,if_neg hk9]) (by decide))
         rw[Bool.not_eq_true] at hk9;rw[hk9];clear hE hn hf ht ho hk9;go_wp2;go_ret
         exact⟨by rw[HQ.out];rfl,O3.out⟩
      ·have HQ:Hid (lS l=3):=hid (HNO.out _ (by rw[hE,if_neg (fun q=>ht q.2.2)]) (by decide))
       rcases dP ht with hq|⟨hq,hr⟩
       ·have htx:decide (s.t<0)=true:=by simp;omega
        clear hE;go_wp2;go_ret
        exact⟨by rw[HQ.out];rfl,O3.out⟩
       ·have htx:decide (s.t<0)=false:=by simp;omega
        have hty:decide (s.t > 1125899906842624)=true:=by simp;omega
        have htz:decide (1125899906842624<s.t)=true:=by simp;omega
        clear hE;go_wp2;go_ret
        exact⟨by rw[HQ.out];rfl,O3.out⟩
     ·have HQ:Hid (lS l=3):=hid (HNO.out _ (by rw[hE,if_neg (fun q=>hf q.2.1)]) (by decide))
      rcases dP hf with hq|⟨hq,hr⟩
      ·have hfx:decide (s.f<0)=true:=by simp;omega
       clear hE;go_wp2;go_ret
       exact⟨by rw[HQ.out];rfl,O3.out⟩
      ·have hfx:decide (s.f<0)=false:=by simp;omega
       have hfy:decide (s.f > 1125899906842624)=true:=by simp;omega
       have hfz:decide (1125899906842624<s.f)=true:=by simp;omega
       clear hE;go_wp2;go_ret
       exact⟨by rw[HQ.out];rfl,O3.out⟩
    ·have HQ:Hid (lS l=3):=hid (HNO.out _ (by rw[hE,if_neg (fun q=>hn q.1)]) (by decide))
     rcases dP hn with hq|⟨hq,hr⟩
     ·have hnx:decide (s.n<0)=true:=by simp;omega
      clear hE;go_wp2;go_ret
      exact⟨by rw[HQ.out];rfl,O3.out⟩
     ·have hnx:decide (s.n<0)=false:=by simp;omega
      have hny:decide (s.n >= 24)=true:=by simp;omega
      have hnz:decide (24<=s.n)=true:=by simp;omega
      clear hE;go_wp2;go_ret
      exact⟨by rw[HQ.out];rfl,O3.out⟩
   ·have HY:Hid (lS l=0):=hid (by rw[HX.out,HF.out,iR (by omega)])
    obtain rfl:k=l.length:=by omega
    go_wp2;go_ret
    exact⟨by rw[HY.out];rfl,OO.out⟩
end
end Go.Proofs.YthbgcpfklmlnjaaGreat
