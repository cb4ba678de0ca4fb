/- Nk Nl -/
import Derived.Test.YthbgcpfklmlnjaaGreatFNj
import Derived.Deep.MidRow
namespace Go.Proofs.YthbgcpfklmlnjaaGreat
set_option linter.all false
set_option maxRecDepth 100000
set_option maxHeartbeats 8000000
open Go.RowKit Go.Sort
open Go.Lib (hid)
section
theorem KE {l:List Ft} (h:lS l=0):l.length<=32/\∀ f∈l,xI f=0:=by
 unfold lS at h;split at h
 ·exact absurd h (by decide)
 ·rename_i h1
  refine⟨by omega,fun f hf=>?_⟩;obtain⟨i,hi,rfl⟩:=List.getElem_of_mem hf;have:=sK.1 h i (Nat.zero_le _) (by omega);rwa [show l.getD i iT=l[i] by rw[List.getD_eq_getElem?_getD,List.getElem?_eq_getElem hi];rfl] at this
theorem ft_ok {f:Ft} (h:xI f=0):(0<=f.n/\f.n<=23)/\(0<=f.f/\f.f<=f.t/\f.t<=1125899906842624)/\(1<=f.k/\f.k<=9)/\(-1125899906842624<=f.v/\f.v<=1125899906842624)/\(f.k=9->0<=f.v):=by
 unfold xI at h;split at h
 ·rename_i h1
  simp only[bH] at h1;split at h
  ·exact absurd h (by decide)
  ·split at h
   ·rename_i h2 h3
    rw[bH] at h3;split at h
    ·rename_i h4
     refine⟨h1.1,⟨h1.2.1.1,by omega,h1.2.2.2⟩,h3,?_⟩;unfold fits at h4;split at h4
     ·rw[bH] at h4;refine⟨h4,fun q=>by omega⟩
     ·split at h4
      ·rw[bH] at h4;refine⟨by omega,fun q=>by omega⟩
      ·split at h4
       ·rw[bH] at h4;refine⟨by omega,fun q=>by omega⟩
       ·split at h4
        ·rw[bH] at h4;refine⟨by omega,fun _=>h4.1⟩
        ·have:=of_decide_eq_true h4;refine⟨by omega,fun q=>by omega⟩
    ·exact absurd h (by decide)
   ·exact absurd h (by decide)
 ·exact absurd h (by decide)
theorem pForge {w:World} {bs:Nat} {g:Fg} {f:Ft} {t:Int} (hs:w.heap[bs]? = some (.cells (jE g).toArray 246 (0,0))) (t0:0<=t) (t1:t<=1125899906842624) (hf:xI f=0) (hh:0<=g.hold/\g.hold<=1152921504606846976) :
  Calls Tryz.prog 141 #[.pointer (some ⟨bs,0,none⟩),EJ f,.int .i64 t] w fun e w'=>e=.returned (.tuple #[])/\w'.heap[bs]? = some (.cells (jE (gH t g f)).toArray 246 (0,0))/\Only [bs] w w':=by
 have hk:=ft_ok hf;have hv:=hk.2.2.2.1;have h9:=hk.2.2.2.2;have hk:=hk.2.2.1;by_cases k1:f.k=1
 ·rw[frg1 k1];exact XP hs k1
 by_cases k2:f.k=2
 ·rw[show gH t g f=((g.vZ (iW g.hd.rcv f.v t)).FW (iW (g.vZ (iW g.hd.rcv f.v t)).hd.xmt f.v t)).xW (KJ ((g.vZ (iW g.hd.rcv f.v t)).FW (iW (g.vZ (iW g.hd.rcv f.v t)).hd.xmt f.v t)).iv f.v) from by unfold gH;rw[if_neg k1,if_pos k2]]
  exact pForgeS hs t0 t1 hv.1 hv.2 k2
 by_cases k3:f.k=3
 ·rw[show gH t g f=g.xW (GH g.iv f.v) from by unfold gH;rw[if_neg k1,if_neg k2,if_pos k3]]
  exact pForgeN hs t0 t1 hv.1 hv.2 k3
 by_cases k4:f.k=4
 ·rw[frg4 k4];exact XO hs k4
 by_cases k5:f.k=5
 ·rw[frg5 k5];exact XM hs k5
 by_cases k6:f.k=6
 ·rw[frg6 k6];exact XL hs k6
 by_cases k7:f.k=7
 ·rw[frg7 k7];exact XK hs k7
 by_cases k8:f.k=8
 ·rw[frg8 k8];exact XJ hs k8
 have k9:f.k=9:=by omega
 have:=h9 k9;rw[frg9 k9];exact XI hs k9 (by omega)
theorem J8 {t:Int} {g:Fg} {f:Ft} (hf:xI f=0) (h:0<=g.hold):0<=(gH t g f).hold/\(gH t g f).hold<=g.hold+1125899906842624:=by
 have hk:=ft_ok hf;have hv:=hk.2.2.2.1;have h9:=hk.2.2.2.2;have s1:∀ (g:Fg) o,(g.vZ o).hold=g.hold:=fun g o=>by cases o<;>rfl
 have s2:∀ (g:Fg) o,(g.FW o).hold=g.hold:=fun g o=>by cases o<;>rfl
 have s3:∀ (g:Fg) o,(g.xW o).hold=g.hold:=fun g o=>by cases o<;>rfl
 unfold gH;repeat' split
 all_goals first|(dsimp only;rw[s3,s2,s1];omega)|(rw[s3];omega)|(dsimp only;omega)|(rename_i q;have:=h9 q;dsimp only;omega)|omega
def oP (l:List Ft) (n t:Int) (j:Nat):List Int:=((List.range j).filter (fun i:Nat=>wY n t (l.getD i iT))).map (fun i:Nat=>(i:Int))
theorem K7 {l:List Ft} {n t:Int} {j:Nat} (h:wY n t (l.getD j iT)=true):oP l n t (j+1)=oP l n t j ++ [(j:Int)]:=by
 unfold oP;rw[List.range_succ,List.filter_append,show List.filter (fun i:Nat=>wY n t (l.getD i iT)) [j]=[j] from by simp only[List.filter_cons,h,if_true,List.filter_nil]];simp
theorem Q7 {l:List Ft} {n t:Int} {j:Nat} (h:wY n t (l.getD j iT)=false):oP l n t (j+1)=oP l n t j:=by
 unfold oP;rw[List.range_succ,List.filter_append,show List.filter (fun i:Nat=>wY n t (l.getD i iT)) [j]=[] from by simp only[List.filter_cons,h,Bool.false_eq_true,if_false,List.filter_nil]];simp
theorem K8 (l:List Ft) (n t:Int) (j:Nat):(oP l n t j).length<=j:=by
 unfold oP;rw[List.length_map];exact Nat.le_trans (List.length_filter_le _ _) (by simp)
theorem pActive {w:World} {p:Option Addr} {m cap:Nat} {l:List Ft} (n t:Int) (hv:aS ftC 5 w p m cap l) (hl:lS l=0) :
  Calls Tryz.prog 140 #[.slice p m cap,.int .i64 n,.int .i64 t] w fun e w'=>∃ v,e=.returned v/\Own fB 3 1 w.heap.size w' v (oP l n t l.length)/\Only [] w w':=by
 have h32:=(KE hl).1;have HV:=hid hv;have hln:=hv.len;have hcap:=Nat.le_trans hv.le hv.cm;subst hln;have HC:=hid (fun w' (o:Only [] w w')=>by have:=XQ (hv.kept o) (by omega);rw[hl] at this;exact this);clear hv hl;obtain⟨wo,hwo⟩:∃ wo:World,wo=w:=⟨_,rfl⟩;subst hwo;have m:=dD wo [];have k:=m.out.k;go_enter Tryz.func140,Tryz.ntmps140
 go_wp2_with ((with_reducible first|refine cM (HC.out _ gO) ?_|refine cU ?_|refine wU ?_);clear k m;intro w m k)
 have OB:=hid m.out.only;clear k m;obtain⟨wl,hwl⟩:∃ wl:World,wl=w:=⟨_,rfl⟩;subst hwl;go_loopw [7,15] (fun vo vi wr=>∃ j:Nat,j<=l.length/\vi=.int .i64 j/\Own fB 3 1 wo.heap.size wr vo (oP l n t j)/\Only [] wo wr) (fun _ vi _=>l.length-(intOf vi).toNat)
 case atStart=>exact⟨0,Nat.zero_le _,rfl,(by unfold oP;exact dZ _ _),OB.out⟩
 case round =>
  obtain⟨j,hj,rfl,hown,ho⟩:=hrel;have OW:=hid hown;have OO:=hid ho;clear hown ho;by_cases hlt:j<l.length
  ·have hlt2:(j:Int)<(l.length:Int):=by omega
   obtain⟨bk,off,rfl,-⟩:=HV.out.ft (Only.refl [] wo) hlt
   have HX:=hid (show ∀ w',Only [] wr w'->bk<w'.heap.size/\w'.cell? ⟨bk,off+j*5,none⟩=some (.int .i64 (l.getD j iT).n)/\w'.cell? ⟨bk,off+j*5+1,none⟩=some (.int .i64 (l.getD j iT).f)/\w'.cell? ⟨bk,off+j*5+2,none⟩=some (.int .i64 (l.getD j iT).t)/\w'.cell? ⟨bk,off+j*5+3,none⟩=some (.int .i64 (l.getD j iT).k)/\w'.cell? ⟨bk,off+j*5+4,none⟩=some (.int .i64 (l.getD j iT).v) from fun w' o=>by
    obtain⟨b',o',e,c1,c2,c3,c4,c5,c6⟩:=HV.out.ft (OO.out.trans o (by simp)) hlt
    cases e
    exact⟨c6,c1,c2,c3,c4,c5⟩)
   have HY:=hid (fun h=>K7 (l:=l) (n:=n) (t:=t) (j:=j) h);have HN:=hid (fun h=>Q7 (l:=l) (n:=n) (t:=t) (j:=j) h);have HLN:=hid (K8 l n t j);have HJ:=hid (show j+1<=l.length by omega);have eb:IntKind.i64.wrap ((j:Int)+1)=((j+1:Nat):Int):=by rw[IntKind.wrap_i64];omega
   unfold wY at HY HN;generalize l.getD j iT=f at HX HY HN;obtain⟨f1,f2,f3,f4,f5⟩:=f;dsimp only at HX HY HN;generalize oP l n t j=acc at HY HN HLN OW;by_cases q1:f1=n
   ·subst q1
    have b1:(f1 == f1)=true:=by simp
    by_cases q2:f2<=t
    ·have b2:decide (f2<=t)=true:=decide_eq_true q2
     by_cases q3:t<f3
     ·have b3:decide (t<f3)=true:=decide_eq_true q3
      have hy:=HY.out (by simp[q2,q3]);clear HN HY;have HA:=hid hy;clear hy q2 q3;have m:=dD wr [];have k:=m.out.k;have c:=HX.out wr (Only.refl _ _);go_wp2_with (at_builtin;refine bD ?_)
      refine cK ?_;refine bK (w0:=wo) rfl _ _ 42 rfl 3 (.int .i64 0) 1 8 Tryz.underlying42 (by kernel_rfl) rfl (by decide) fB dI nO acc _ rfl (OW.out.kept gO) (wr.heap.size+1) j rfl (fun jj u hj=>?_) (by have:=HLN.out;simp[maxLen];omega) (by have:=HLN.out;omega) (OO.out.trans gO (by simp)) ?_
      ·rw[aA (gB (b:=wr.heap.size+1)),<-hj];simp[fB]
      intro v9 w9 hown9 ho9 _;go_wp2;go_roundw
      case rel=>exact⟨j+1,HJ.out,by go_num,by rw[HA.out];exact hown9,ho9⟩
      case measure=>first|(simp[intOf];done)|(simp[intOf];omega)
     ·have b3:decide (t<f3)=false:=decide_eq_false q3
      have hn:=HN.out (by simp[q3]);have HA:=hid hn;clear hn HY HN;have m:=dD wr [];have k:=m.out.k;have c:=HX.out wr (Only.refl _ _);go_wp2;go_roundw
      case rel=>exact⟨j+1,HJ.out,by go_num,by rw[HA.out];exact OW.out.kept gO,OO.out.trans gO (by simp)⟩
      case measure=>first|(simp[intOf];done)|(simp[intOf];omega)
    ·have b2:decide (f2<=t)=false:=decide_eq_false q2
     have hn:=HN.out (by simp[q2]);have HA:=hid hn;clear hn HY HN;have m:=dD wr [];have k:=m.out.k;have c:=HX.out wr (Only.refl _ _);go_wp2;go_roundw
     case rel=>exact⟨j+1,HJ.out,by go_num,by rw[HA.out];exact OW.out.kept gO,OO.out.trans gO (by simp)⟩
     case measure=>first|(simp[intOf];done)|(simp[intOf];omega)
   ·have b1:(f1 == n)=false:=by simpa using q1
    have hn:=HN.out (by simp[q1]);have HA:=hid hn;clear hn HY HN;have m:=dD wr [];have k:=m.out.k;have c:=HX.out wr (Only.refl _ _);go_wp2;go_roundw
    case rel=>exact⟨j+1,HJ.out,by go_num,by rw[HA.out];exact OW.out.kept gO,OO.out.trans gO (by simp)⟩
    case measure=>first|(simp[intOf];done)|(simp[intOf];omega)
  ·obtain rfl:j=l.length:=by omega
   have hlt2:decide ((l.length:Int)<(l.length:Int))=false:=by simp
   have m:=dD wr [];have k:=m.out.k;go_wp2;go_ret
   exact⟨_,rfl,OW.out,OO.out⟩
end
section
def rW (l:List Ft) (t:Int) (g:Fg) (is:List Int):Fg:=is.foldl (fun g i=>gH t g (l.getD i.toNat iT)) g
theorem E9 (l:List Ft) (t:Int) (g:Fg) (is:List Int) (i:Int):rW l t g (is ++ [i])=gH t (rW l t g is) (l.getD i.toNat iT):=by
 unfold rW;rw[List.foldl_append];rfl
theorem Z6 {l:List Ft} {n t i:Int} {m:Nat} (h:i∈oP l n t m):0<=i/\i<m:=by
 unfold oP at h;obtain⟨j,hj,rfl⟩:=List.mem_map.1 h;have:=List.mem_range.1 (List.mem_filter.1 hj).1;omega
theorem CW (l:List Ft) (n t:Int) (g:Fg):∀ m,m<=l.length->rW l t g (oP l n t m)=((l.take m).filter (wY n t)).foldl (gH t) g
 | 0,_=>by unfold oP rW;simp
 |m+1,h=>by
  have hm:m<l.length:=by omega
  have hg:l.getD m iT=l[m]:=by rw[List.getD_eq_getElem?_getD,List.getElem?_eq_getElem hm];rfl
  rw[List.take_succ_eq_append_getElem hm,List.filter_append]
  cases hb:wY n t (l.getD m iT) with
  | true =>
   rw[K7 hb,E9,CW l n t g m (by omega),Int.toNat_natCast,show List.filter (wY n t) [l[m]]=[l[m]] from by rw[<-hg];simp only[List.filter_cons,hb,if_true,List.filter_nil],List.foldl_append,hg];rfl
  | false =>
   rw[Q7 hb,CW l n t g m (by omega),show List.filter (wY n t) [l[m]]=[] from by rw[<-hg];simp only[List.filter_cons,hb,Bool.false_eq_true,if_false,List.filter_nil],List.append_nil]
theorem YW {l:List Ft} (h:lS l=0) {i:Nat} (hi:i<l.length):xI (l.getD i iT)=0:=by
 rw[List.getD_eq_getElem?_getD,List.getElem?_eq_getElem hi];exact (KE h).2 _ (List.getElem_mem hi)
theorem RH {Pr:Program} {w0 w:World} {S:List Nat} {L:List gJ} {Q:Exit->Act->World->Prop} {ops:Array Oper} {rest:List Oper} {a:Act} [m:Mm w0 S w L] {ty y1:TypeId} {s1:String} {e1:Array Edge} {x:Operand} {tL:Tmp} {b:Nat} {cs:List Value} {t:TypeId} {d:TypeDesc} [h:Has L b cs t]
  (hx:a.eval x=.pointer (some ⟨b,0,none⟩)) (hu:Pr.underlying ty=some d) (hd:d.isRow=true) (hi:(Pr.info? ty).map (·.size)=some cs.length)
  (hk:wpList Pr ops Q rest (a.put (some tL) (.agg cs.toArray)) w):wpList Pr ops Q (⟨some tL,.load ty x,y1,s1,e1,none⟩::rest) a w:=
 wpList_load_mid rfl ty x rfl b 0 hx cs d (fun j v hv=>by rw[Nat.zero_add,aA gB j,List.getElem?_toArray];exact hv) hu hd hi hk
theorem jA {Pr:Program} {w0 w:World} {S:List Nat} {L L':List gJ} {Q:Exit->Act->World->Prop} {ops:Array Oper} {rest:List Oper} {a:Act} [m:Mm w0 S w L] {ty y1:TypeId} {s1:String} {e1:Array Edge} {x y:Operand} {b:Nat} {old cs:List Value} [h:Has L b old ty] [s:FC L b cs ty L']
  (hx:a.eval x=.pointer (some ⟨b,0,none⟩)) (hy:a.eval y=.agg cs.toArray) (hi:(Pr.info? ty).map (·.size)=some cs.length) (hl:old.length=cs.length) (h1:cs.all (·.oneCell')=true)
  (hk:∀ w',Mm w0 S w' L'->wpList Pr ops Q rest (a.put none undef) w'):wpList Pr ops Q (⟨none,.store ty x y,y1,s1,e1,none⟩::rest) a w:=by
 refine _root_.Go.wpList_store_row rfl ty x y rfl b cs.toArray hx hy ty old.toArray gB (by rw[hi,List.size_toArray]) (by simpa using hl) (by simpa using h1) ?_;obtain⟨i,vs,h2,rfl⟩:=s.h;exact hk _ ⟨m.out.upd h2 (setRow_heap w b old.toArray cs.toArray ty (0,0) gB) ⟨rfl,rfl,rfl,by simp[World.setRow],fun q _ hq=>setRow_other _ _ q _ (fun e=>hq (by simp[e]))⟩⟩
theorem FH {Pr:Program} {w0 w:World} {S:List Nat} {L L':List gJ} {Q:Exit->Act->World->Prop} {ops:Array Oper} {rest:List Oper} {a:Act} [m:Mm w0 S w L] {ty y1 y2:TypeId} {s1 s2:String} {e1 e2:Array Edge} {x y z:Operand} {tL:Tmp} {b c:Nat} {old cs:List Value} {t:TypeId} {d:TypeDesc} [h:Has L b cs t] [h':Has L c old ty] [s:FC L c cs ty L']
  (hx:a.eval x=.pointer (some ⟨b,0,none⟩)) (hu:Pr.underlying ty=some d) (hd:d.isRow=true) (hi:(Pr.info? ty).map (·.size)=some cs.length)
  (hy:(a.put (some tL) (.agg cs.toArray)).eval y=.pointer (some ⟨c,0,none⟩)) (hz:(a.put (some tL) (.agg cs.toArray)).eval z=.agg cs.toArray) (hl:old.length=cs.length) (h1:cs.all (·.oneCell')=true)
  (hk:∀ w',Mm w0 S w' L'->wpList Pr ops Q rest ((a.put (some tL) (.agg cs.toArray)).put none undef) w'):wpList Pr ops Q (⟨some tL,.load ty x,y1,s1,e1,none⟩::⟨none,.store ty y z,y2,s2,e2,none⟩::rest) a w:=
 RH hx hu hd hi (jA hy hz hi hl h1 hk)
theorem ret_row {Pr:Program} {fn:Func} {tmps:Array Value} {w:World} {i:Tmp} {t t':TypeId} {b:Nat} {cs:List Value} {d:TypeDesc} (hr:fn.results=#[.cell i t]) (ht:tmps.getD i undef=.pointer (some ⟨b,0,none⟩)) (hg:w.heap[b]? = some (.cells cs.toArray t' (0,0)))
  (hu:Pr.underlying t=some d) (hd:d.isRow=true) (hi:(Pr.info? t).map (·.size)=some cs.length):(results fn tmps).run Pr w=.ok (.agg cs.toArray) w:=by
 have h:=run_loadVar_mid w b 0 t cs d (fun j v hv=>by rw[Nat.zero_add,aA hg j,List.getElem?_toArray];exact hv) hu hd hi;have ht':tmps[i]?.getD undef=.pointer (some ⟨b,0,none⟩):=by rw[<-ht];simp
 simp[results,hr,ht',asAddr,h]
def fgV (g:Fg):Value:=.agg (jE g).toArray
theorem pApply {w:World} {p:Option Addr} {m cap:Nat} {l:List Ft} (n t:Int) (q:Np) (x:Iv) (hv:aS ftC 5 w p m cap l) (hl:lS l=0) (t0:0<=t) (t1:t<=1125899906842624) :
  Calls Tryz.prog 134 #[.slice p m cap,.int .i64 n,.int .i64 t,iL q,dS x] w fun e w'=>e=.returned (fgV (lV l n t q x))/\Only [] w w':=by
 have h32:=(KE hl).1;have HV:=hid hv;have hln:=hv.len;have hcap:=Nat.le_trans hv.le hv.cm;subst hln;have HA:=hid (fun w' (o:Only [] w w')=>pActive n t (hv.kept o) hl);have HL:=hid hl;have HE:Hid (rW l t ⟨false,q,x,0⟩ (oP l n t l.length)=lV l n t q x):=hid (by rw[CW l n t _ _ (Nat.le_refl _),List.take_length];rfl);have HI:=hid (fun i (h:i∈oP l n t l.length)=>Z6 h);have HIL:=hid (K8 l n t l.length);generalize oP l n t l.length=is at HA HE HI HIL;rw[<-HE.out];obtain⟨q1,q2,q3,q4,q5,q6,q7,q8,q9,qa,qb,qc,qd⟩:=q;obtain⟨x1,x2⟩:=x;unfold iL dS;dsimp only;obtain⟨g0,hg0⟩:∃ g:Fg,(⟨false,⟨q1,q2,q3,q4,q5,q6,q7,q8,q9,qa,qb,qc,qd⟩,⟨x1,x2⟩,0⟩:Fg)=g:=⟨_,rfl⟩;have HC0:Hid (jE g0=[.bool false,.int .i64 q1,.int .i64 q2,.int .i64 q3,.int .i64 q4,.int .i64 q5,.int .i64 q6,.int .u32 q7,.int .u32 q8,.int .u32 q9,.int .u64 qa,.int .u64 qb,.int .u64 qc,.int .u64 qd,.int .i64 x1,.int .i64 x2,.int .i64 0]):=hid (by rw[<-hg0];rfl);have hh0:g0.hold=0:=by rw[<-hg0]
 rw[hg0];clear hg0 HE hv hl;obtain⟨wo,hwo⟩:∃ wo:World,wo=w:=⟨_,rfl⟩;subst hwo;have m:=dD wo [];have k:=m.out.k;go_enter Tryz.func134,Tryz.ntmps134
 go_wp2_with ((with_reducible first|refine cU ?_|refine wU ?_);clear k m;intro w m k)
 have hbr:=gB (w:=w) (b:=wo.heap.size+1+1);have hbs:=gB (w:=w) (b:=wo.heap.size+1+1+1);have OB:=hid m.out.only;have nrs:wo.heap.size+1+1≠wo.heap.size+1+1+1:=by omega
 have grb:wo.heap.size<=wo.heap.size+1+1:=by omega
 have gsb:wo.heap.size<=wo.heap.size+1+1+1:=by omega
 generalize wo.heap.size+1+1+1=bs at hbs nrs gsb |-;generalize wo.heap.size+1+1=br at hbr nrs grb |-;have HBR:=hid hbr;have hbs':w.heap[bs]? = some (.cells (jE g0).toArray 246 (0,0)):=by rw[HC0.out];exact hbs
 have HBS:=hid hbs';clear k m hbr hbs hbs' HC0;refine (HA.out w OB.out).mono ?_;rintro e w2 ⟨v,rfl,hown,ho⟩;have hge:=hown.vP;obtain⟨pi,ci,rfl,hvi⟩:=hown.eH dI;have hbsw:=aD HBS.out;replace OB:=hid (OB.out.aB ho);replace HBR:=hid (ho.got HBR.out (by simp));replace HBS:=hid (ho.got HBS.out (by simp));have HVI:=hid hvi;have hcapi:=Nat.le_trans hvi.le hvi.cm
 have HGE:=hid (show ∀ b off,pi=some ⟨b,off,none⟩->b≠bs from fun b off q=>by
  subst q;have:=hge b (by simp[Value.ownBlock]);omega)
 clear hown hvi ho HA hge hbsw;obtain⟨wl,hwl⟩:∃ wl:World,wl=w2:=⟨_,rfl⟩;subst hwl;go_wp2_with fail
 go_loopw [22] (fun vi wr=>∃ j:Nat,j<=is.length/\vi=.int .i64 j/\wr.heap[bs]? = some (.cells (jE (rW l t g0 (is.take j))).toArray 246 (0,0))/\(0<=(rW l t g0 (is.take j)).hold/\(rW l t g0 (is.take j)).hold<=(j:Int)*1125899906842624)/\Only [bs] wl wr) (fun vi _=>is.length-(intOf vi).toNat)
 case atStart=>exact⟨0,Nat.zero_le _,rfl,HBS.out,by rw[List.take_zero];show 0<=g0.hold/\g0.hold<=_;rw[hh0];simp,Only.refl _ _⟩
 case round =>
  obtain⟨j,hj,rfl,hb,hhold,ho⟩:=hrel;have HH:=hid hhold;have OO:=hid ho;have HB:=hid hb;have WW:=hid (OB.out.trans ho (fun q hq=>.inr (by rw[List.mem_singleton.1 hq];exact gsb)));clear hhold ho hb;have his:=HIL.out;by_cases hlt:j<is.length
  ·have hlt2:(j:Int)<(is.length:Int):=by omega
   have hmem:=HI.out is[j] (List.getElem_mem hlt);obtain⟨i,hi⟩:∃ i:Nat,is[j]=(i:Int):=⟨is[j].toNat,by omega⟩;have hil:i<l.length:=by omega
   have hil2:(i:Int)<(l.length:Int):=by omega
   have HSN:=hid (show rW l t g0 (is.take (j+1))=gH t (rW l t g0 (is.take j)) (l.getD i iT) by
    rw[List.take_succ_eq_append_getElem hlt,E9,hi,Int.toNat_natCast])
   obtain⟨bi,oi,rfl,-⟩:=HVI.out.cell j is[j] (List.getElem?_eq_getElem hlt);obtain⟨bk,off,rfl,-⟩:=HV.out.ft (Only.refl [] wo) hil;have hbi:bi≠bs:=HGE.out bi oi rfl
   have HX:=hid (show ∀ w',Only [bs] wr w'->(bi<w'.heap.size/\w'.cell? ⟨bi,oi+j,none⟩=some (.int .i64 (i:Int)))/\bk<w'.heap.size/\w'.cell? ⟨bk,off+i*5,none⟩=some (.int .i64 (l.getD i iT).n)/\w'.cell? ⟨bk,off+i*5+1,none⟩=some (.int .i64 (l.getD i iT).f)/\w'.cell? ⟨bk,off+i*5+2,none⟩=some (.int .i64 (l.getD i iT).t)/\w'.cell? ⟨bk,off+i*5+3,none⟩=some (.int .i64 (l.getD i iT).k)/\w'.cell? ⟨bk,off+i*5+4,none⟩=some (.int .i64 (l.getD i iT).v) from fun w' o=>by
    obtain⟨b',o',e,c1,c2,c3,c4,c5,c6⟩:=HV.out.ft (WW.out.trans o (fun q hq=>.inr (by rw[List.mem_singleton.1 hq];exact gsb))) hil
    cases e
    obtain⟨b2,o2,e2,d1,d2⟩:=HVI.out.cell j is[j] (List.getElem?_eq_getElem hlt)
    cases e2
    have o3:=OO.out.trans o (fun q hq=>.inl hq);have d3:=d2 0 _ rfl;rw[hi,Nat.mul_one,Nat.add_zero] at d3;exact⟨⟨Nat.lt_of_lt_of_le d1 o3.size,(o3.cell d1 (by simpa using hbi)).trans d3⟩,c6,c1,c2,c3,c4,c5⟩)
   have hfo:=YW HL.out hil;have HFG:=hid (fun w' hs=>pForge (w:=w') (bs:=bs) (g:=rW l t g0 (is.take j)) (f:=l.getD i iT) (t:=t) hs t0 t1 hfo (by have:=HH.out;omega));have HFH:=hid (J8 (t:=t) (g:=rW l t g0 (is.take j)) hfo HH.out.1);have HHB:=hid (show (gH t (rW l t g0 (is.take j)) (l.getD i iT)).hold<=((j+1:Nat):Int)*1125899906842624 by have:=HH.out;have:=HFH.out;omega);have HHA:=hid HFH.out.1;have HJ:=hid (show j+1<=is.length by omega);have eb:IntKind.i64.wrap ((j:Int)+1)=((j+1:Nat):Int):=by rw[IntKind.wrap_i64];omega
   clear hfo HFH hmem hi;generalize l.getD i iT=f at HX HFG HSN HHB HHA;obtain⟨f1,f2,f3,f4,f5⟩:=f;unfold EJ at HFG;dsimp only at HX HFG;generalize rW l t g0 (is.take j)=gg at HB HFG HSN HHB HHA HH;generalize gH t gg ⟨f1,f2,f3,f4,f5⟩=g2 at HFG HSN HHB HHA;have m:=lQ HB.out;have k:=m.out.k;have c:=HX.out wr (Only.refl _ _);go_wp2_with (first|((with_reducible first|refine cP (HFG.out _ gB) ?_|refine cU ?_|refine wU ?_);clear k m c;intro w m k;have c:=HX.out w m.out.only)|(go_roundw;(case rel=>exact⟨j+1,HJ.out,by go_num,by rw[HSN.out];exact gB,by rw[HSN.out];exact⟨HHA.out,HHB.out⟩,OO.out.trans gO (fun q hq=>.inl hq)⟩);(case measure=>first|(simp[intOf];done)|(simp[intOf];omega))))
  ·obtain rfl:j=is.length:=by omega
   have hlt2:decide ((is.length:Int)<(is.length:Int))=false:=by simp
   have hb:=HB.out;rw[List.take_length] at hb;have HBR2:=hid (OO.out.got HBR.out (by simpa using nrs));have HWW:=WW;obtain⟨gg,hgg⟩:∃ g,rW l t g0 is=g:=⟨_,rfl⟩;rw[hgg] at hb;have HGG:=hid hgg;clear hgg;have m:Mm wr [br] wr _:=⟨((Mem.start wr [br]).ext false hb (by simp) (by simp)).ext true HBR2.out (by simpa using nrs) (by simp)⟩;have k:True:=trivial;clear hb;go_wp2_with (first|((with_reducible refine FH (ty:=246) (b:=bs) (c:=br) (cs:=jE gg) ?_ Tryz.underlying246 ?_ ?_ ?_ ?_ ?_ ?_ ?_);(. simp[Act.eval]);(. rfl);(. kernel_rfl);(. simp[Act.eval,Act.put]);(. simp[Act.eval,Act.put]);(. rfl);(. rfl);(clear k m;intro w m;have k:True:=trivial))|((with_reducible refine wU ?_);clear k m;intro w m k))
   refine lE (fun w o g _ K hK=>⟨rfl,_,ret_row (b:=br) (cs:=jE gg) (t':=246) Tryz.results134 ?_ ?_ Tryz.underlying246 ?_ ?_,hK _ ?_⟩)
   ·rfl
   ·exact g.1
   ·rfl
   ·kernel_rfl
   ·exact⟨by rw[HGG.out];rfl,HWW.out.trans o (fun q hq=>.inr (by rw[List.mem_singleton.1 hq];exact grb))⟩
end
end Go.Proofs.YthbgcpfklmlnjaaGreat
