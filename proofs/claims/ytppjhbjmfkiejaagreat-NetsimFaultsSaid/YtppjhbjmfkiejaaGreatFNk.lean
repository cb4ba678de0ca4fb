/- fault.Active and fault.Apply, at a valid script. Conditions: those named in each theorem. -/
import Derived.Test.YtppjhbjmfkiejaaGreatFNj
namespace Go.Proofs.YtppjhbjmfkiejaaGreat
set_option linter.all false
open Go.Lib (hid)
set_option maxRecDepth 100000
set_option maxHeartbeats 8000000
open Go.RowKit Go.Sort
theorem fc_ok {l:List Ft} (h:fcE l=0):l.length<=32/\∀ f∈l,ftE f=0:=by
 unfold fcE at h;split at h
 ·exact absurd h (by decide)
 ·rename_i h1
  refine⟨by omega,fun f hf=>?_⟩;obtain⟨i,hi,rfl⟩:=List.getElem_of_mem hf;have:=fe_ok.1 h i (Nat.zero_le _) (by omega);rwa [show l.getD i ft0=l[i] by rw[List.getD_eq_getElem?_getD,List.getElem?_eq_getElem hi];rfl] at this
theorem ft_ok {f:Ft} (h:ftE f=0):(0<=f.n/\f.n<=23)/\(0<=f.f/\f.f<=f.t/\f.t<=1125899906842624)/\(1<=f.k/\f.k<=9)/\(-1125899906842624<=f.v/\f.v<=1125899906842624)/\(f.k=9->0<=f.v):=by
 unfold ftE at h;split at h
 ·rename_i h1
  simp only[inR_t] at h1;split at h
  ·exact absurd h (by decide)
  ·split at h
   ·rename_i h2 h3
    rw[inR_t] at h3;split at h
    ·rename_i h4
     refine⟨h1.1,⟨h1.2.1.1,by omega,h1.2.2.2⟩,h3,?_⟩;unfold fits at h4;split at h4
     ·rw[inR_t] at h4;refine⟨h4,fun q=>by omega⟩
     ·split at h4
      ·rw[inR_t] at h4;refine⟨by omega,fun q=>by omega⟩
      ·split at h4
       ·rw[inR_t] at h4;refine⟨by omega,fun q=>by omega⟩
       ·split at h4
        ·rw[inR_t] at h4;refine⟨by omega,fun _=>h4.1⟩
        ·have:=of_decide_eq_true h4;refine⟨by omega,fun q=>by omega⟩
    ·exact absurd h (by decide)
   ·exact absurd h (by decide)
 ·exact absurd h (by decide)
theorem pForge {w:World} {bs:Nat} {g:Fg} {f:Ft} {t:Int} (hs:w.heap[bs]? = some (.cells (fgC g).toArray 315 (0,0))) (t0:0<=t) (t1:t<=1125899906842624) (hf:ftE f=0) (hh:0<=g.hold/\g.hold<=1152921504606846976) :
  Calls Tryz.prog 181 #[.pointer (some ⟨bs,0,none⟩),ftV f,.int .i64 t] w fun e w'=>e=.returned (.tuple #[])/\w'.heap[bs]? = some (.cells (fgC (frgF t g f)).toArray 315 (0,0))/\Only [bs] w w':=by
 have hk:=ft_ok hf;have hv:=hk.2.2.2.1;have h9:=hk.2.2.2.2;have hk:=hk.2.2.1;by_cases k1:f.k=1
 ·rw[frg1 k1];exact pForge_1 hs k1
 by_cases k2:f.k=2
 ·rw[show frgF t g f=((g.setR (shdF g.hd.rcv f.v t)).setX (shdF (g.setR (shdF g.hd.rcv f.v t)).hd.xmt f.v t)).setI (dshF ((g.setR (shdF g.hd.rcv f.v t)).setX (shdF (g.setR (shdF g.hd.rcv f.v t)).hd.xmt f.v t)).iv f.v) from by unfold frgF;rw[if_neg k1,if_pos k2]]
  exact pForgeS hs t0 t1 hv.1 hv.2 k2
 by_cases k3:f.k=3
 ·rw[show frgF t g f=g.setI (nrwF g.iv f.v) from by unfold frgF;rw[if_neg k1,if_neg k2,if_pos k3]]
  exact pForgeN hs t0 t1 hv.1 hv.2 k3
 by_cases k4:f.k=4
 ·rw[frg4 k4];exact pForge_4 hs k4
 by_cases k5:f.k=5
 ·rw[frg5 k5];exact pForge_5 hs k5
 by_cases k6:f.k=6
 ·rw[frg6 k6];exact pForge_6 hs k6
 by_cases k7:f.k=7
 ·rw[frg7 k7];exact pForge_7 hs k7
 by_cases k8:f.k=8
 ·rw[frg8 k8];exact pForge_8 hs k8
 have k9:f.k=9:=by omega
 have:=h9 k9;rw[frg9 k9];exact pForge_9 hs k9 (by omega)
theorem frg_hold {t:Int} {g:Fg} {f:Ft} (hf:ftE f=0) (h:0<=g.hold):0<=(frgF t g f).hold/\(frgF t g f).hold<=g.hold+1125899906842624:=by
 have hk:=ft_ok hf;have hv:=hk.2.2.2.1;have h9:=hk.2.2.2.2;have s1:∀ (g:Fg) o,(g.setR o).hold=g.hold:=fun g o=>by cases o<;>rfl
 have s2:∀ (g:Fg) o,(g.setX o).hold=g.hold:=fun g o=>by cases o<;>rfl
 have s3:∀ (g:Fg) o,(g.setI o).hold=g.hold:=fun g o=>by cases o<;>rfl
 unfold frgF;repeat' split
 all_goals first|(dsimp only;rw[s3,s2,s1];omega)|(rw[s3];omega)|(dsimp only;omega)|(rename_i q;have:=h9 q;dsimp only;omega)|omega
def actI (l:List Ft) (n t:Int) (j:Nat):List Int:=((List.range j).filter (fun i:Nat=>actF n t (l.getD i ft0))).map (fun i:Nat=>(i:Int))
theorem actI_yes {l:List Ft} {n t:Int} {j:Nat} (h:actF n t (l.getD j ft0)=true):actI l n t (j+1)=actI l n t j ++ [(j:Int)]:=by
 unfold actI;rw[List.range_succ,List.filter_append,show List.filter (fun i:Nat=>actF n t (l.getD i ft0)) [j]=[j] from by simp only[List.filter_cons,h,if_true,List.filter_nil]];simp
theorem actI_no {l:List Ft} {n t:Int} {j:Nat} (h:actF n t (l.getD j ft0)=false):actI l n t (j+1)=actI l n t j:=by
 unfold actI;rw[List.range_succ,List.filter_append,show List.filter (fun i:Nat=>actF n t (l.getD i ft0)) [j]=[] from by simp only[List.filter_cons,h,Bool.false_eq_true,if_false,List.filter_nil]];simp
theorem actI_len (l:List Ft) (n t:Int) (j:Nat):(actI l n t j).length<=j:=by
 unfold actI;rw[List.length_map];exact Nat.le_trans (List.length_filter_le _ _) (by simp)
theorem pActive {w:World} {p:Option Addr} {m cap:Nat} {l:List Ft} (n t:Int) (hv:VRow ftC 5 w p m cap l) (hl:fcE l=0) :
  Calls Tryz.prog 180 #[.slice p m cap,.int .i64 n,.int .i64 t] w fun e w'=>∃ v,e=.returned v/\Own intC 3 1 w.heap.size w' v (actI l n t l.length)/\Only [] w w':=by
 have h32:=(fc_ok hl).1;have HV:=hid hv;have hln:=hv.len;have hcap:=Nat.le_trans hv.le hv.cm;subst hln;have HC:=hid (fun w' (o:Only [] w w')=>by have:=pFault (hv.kept o) (by omega);rw[hl] at this;exact this);clear hv hl;obtain⟨wo,hwo⟩:∃ wo:World,wo=w:=⟨_,rfl⟩;subst hwo;have m:=mm0 wo [];have k:=m.out.k;go_enter Tryz.func180,Tryz.ntmps180
 go_wp2_with ((with_reducible first|refine cM (HC.out _ gO) ?_|refine cU ?_|refine wU ?_);clear k m;intro w m k)
 have OB:=hid m.out.only;clear k m;obtain⟨wl,hwl⟩:∃ wl:World,wl=w:=⟨_,rfl⟩;subst hwl;go_loopw [7,15] (fun vo vi wr=>∃ j:Nat,j<=l.length/\vi=.int .i64 j/\Own intC 3 1 wo.heap.size wr vo (actI l n t j)/\Only [] wo wr) (fun _ vi _=>l.length-(intOf vi).toNat)
 case atStart=>exact⟨0,Nat.zero_le _,rfl,(by unfold actI;exact own_nil _ _),OB.out⟩
 case round =>
  obtain⟨j,hj,rfl,hown,ho⟩:=hrel;have OW:=hid hown;have OO:=hid ho;clear hown ho;by_cases hlt:j<l.length
  ·have hlt2:(j:Int)<(l.length:Int):=by omega
   obtain⟨bk,off,rfl,-⟩:=HV.out.ft (Only.refl [] wo) hlt
   have HX:=hid (show ∀ w',Only [] wr w'->bk<w'.heap.size/\w'.cell? ⟨bk,off+j*5,none⟩=some (.int .i64 (l.getD j ft0).n)/\w'.cell? ⟨bk,off+j*5+1,none⟩=some (.int .i64 (l.getD j ft0).f)/\w'.cell? ⟨bk,off+j*5+2,none⟩=some (.int .i64 (l.getD j ft0).t)/\w'.cell? ⟨bk,off+j*5+3,none⟩=some (.int .i64 (l.getD j ft0).k)/\w'.cell? ⟨bk,off+j*5+4,none⟩=some (.int .i64 (l.getD j ft0).v) from fun w' o=>by
    obtain⟨b',o',e,c1,c2,c3,c4,c5,c6⟩:=HV.out.ft (OO.out.trans o (by simp)) hlt
    cases e
    exact⟨c6,c1,c2,c3,c4,c5⟩)
   have HY:=hid (fun h=>actI_yes (l:=l) (n:=n) (t:=t) (j:=j) h);have HN:=hid (fun h=>actI_no (l:=l) (n:=n) (t:=t) (j:=j) h);have HLN:=hid (actI_len l n t j);have HJ:=hid (show j+1<=l.length by omega);have eb:IntKind.i64.wrap ((j:Int)+1)=((j+1:Nat):Int):=by rw[IntKind.wrap_i64];omega
   unfold actF at HY HN;generalize l.getD j ft0=f at HX HY HN;obtain⟨f1,f2,f3,f4,f5⟩:=f;dsimp only at HX HY HN;generalize actI l n t j=acc at HY HN HLN OW;by_cases q1:f1=n
   ·subst q1
    have b1:(f1 == f1)=true:=by simp
    by_cases q2:f2<=t
    ·have b2:decide (f2<=t)=true:=decide_eq_true q2
     by_cases q3:t<f3
     ·have b3:decide (t<f3)=true:=decide_eq_true q3
      have hy:=HY.out (by simp[q2,q3]);clear HN HY;have HA:=hid hy;clear hy q2 q3;have m:=mm0 wr [];have k:=m.out.k;have c:=HX.out wr (Only.refl _ _);go_wp2_with (at_builtin;refine stop_here ?_)
      refine stop_go ?_;refine wpList_append_one (w0:=wo) rfl _ _ 52 rfl 3 (.int .i64 0) 1 8 Tryz.underlying52 (by kernel_rfl) rfl (by decide) intC intC_len intC_one acc _ rfl (OW.out.kept gO) (wr.heap.size+1) j rfl (fun jj u hj=>?_) (by have:=HLN.out;simp[maxLen];omega) (by have:=HLN.out;omega) (OO.out.trans gO (by simp)) ?_
      ·rw[cell_got (gB (b:=wr.heap.size+1)),<-hj];simp[intC]
      intro v9 w9 hown9 ho9 _;go_wp2;go_roundw
      case rel=>exact⟨j+1,HJ.out,by go_num,by rw[HA.out];exact hown9,ho9⟩
      case measure=>first|(simp[intOf];done)|(simp[intOf];omega)
     ·have b3:decide (t<f3)=false:=decide_eq_false q3
      have hn:=HN.out (by simp[q3]);have HA:=hid hn;clear hn HY HN;have m:=mm0 wr [];have k:=m.out.k;have c:=HX.out wr (Only.refl _ _);go_wp2;go_roundw
      case rel=>exact⟨j+1,HJ.out,by go_num,by rw[HA.out];exact OW.out.kept gO,OO.out.trans gO (by simp)⟩
      case measure=>first|(simp[intOf];done)|(simp[intOf];omega)
    ·have b2:decide (f2<=t)=false:=decide_eq_false q2
     have hn:=HN.out (by simp[q2]);have HA:=hid hn;clear hn HY HN;have m:=mm0 wr [];have k:=m.out.k;have c:=HX.out wr (Only.refl _ _);go_wp2;go_roundw
     case rel=>exact⟨j+1,HJ.out,by go_num,by rw[HA.out];exact OW.out.kept gO,OO.out.trans gO (by simp)⟩
     case measure=>first|(simp[intOf];done)|(simp[intOf];omega)
   ·have b1:(f1 == n)=false:=by simpa using q1
    have hn:=HN.out (by simp[q1]);have HA:=hid hn;clear hn HY HN;have m:=mm0 wr [];have k:=m.out.k;have c:=HX.out wr (Only.refl _ _);go_wp2;go_roundw
    case rel=>exact⟨j+1,HJ.out,by go_num,by rw[HA.out];exact OW.out.kept gO,OO.out.trans gO (by simp)⟩
    case measure=>first|(simp[intOf];done)|(simp[intOf];omega)
  ·obtain rfl:j=l.length:=by omega
   have hlt2:decide ((l.length:Int)<(l.length:Int))=false:=by simp
   have m:=mm0 wr [];have k:=m.out.k;go_wp2;go_ret
   exact⟨_,rfl,OW.out,OO.out⟩
end Go.Proofs.YtppjhbjmfkiejaaGreat
