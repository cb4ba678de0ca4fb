/- Pu3 Pu4 -/
import Derived.Test.YthbgcpfklmlnjaaGreatFPu1
namespace Go.Proofs.YthbgcpfklmlnjaaGreat
set_option linter.all false
set_option maxRecDepth 100000
set_option maxHeartbeats 8000000
open Go.RowKit
open Go.Lib (hid)
section
theorem kF (n lo hi:Int) (w:World):Calls Tryz.prog 47 #[.int .i64 n,.int .i64 lo,.int .i64 hi] w fun e w'=>e=.returned (.bool (bI n lo hi))/\w=w':=by
 by_cases h0:lo<=n
 focus
  have d2:decide (lo<=n)=true:=by simpa using h0
  have HR:Hid (bI n lo hi=decide (n<=hi)):=hid (by simp[bI,h0])
 rotate_left
 focus
  have d2:decide (lo<=n)=false:=by simpa using h0
  have HR:Hid (bI n lo hi=false):=hid (by simp[bI,h0])
 rotate_left
 all_goals
  clear h0;go_enter Tryz.func47,Tryz.ntmps47
  go_wp2;go_ret
  exact⟨by rw[HR.out];rfl,rfl⟩
theorem rFits (k v:Int) (w:World):Calls Tryz.prog 48 #[.int .i64 k,.int .i64 v] w fun e w'=>e=.returned (.bool (fits k v))/\w=w':=by
 have key:fits k v=if k=2\/k=3 then bI v (-1125899906842624) 1125899906842624 else if k=5 then bI v 1 15 else if k=6 then bI v 0 3 else if k=9 then bI v 0 1125899906842624 else decide (v=0):=rfl
 generalize fits k v=res at key |-;have KEY:=hid key;clear key;by_cases h2:k=2
 ·have HQ:Hid (res=bI v (-1125899906842624) 1125899906842624):=hid (by rw[KEY.out,if_pos (.inl h2)])
  subst h2;go_enter Tryz.func48,Tryz.ntmps48
  go_wp2_with fail
  refine (kF v _ _ w).mono ?_;rintro e w5 ⟨rfl,rfl⟩;go_wp2;go_ret
  exact⟨by rw[HQ.out];rfl,rfl⟩
 ·have e2:(k == 2)=false:=by simp[h2]
  by_cases h3:k=3
  ·have HQ:Hid (res=bI v (-1125899906842624) 1125899906842624):=hid (by rw[KEY.out,if_pos (.inr h3)])
   subst h3;go_enter Tryz.func48,Tryz.ntmps48
   go_wp2_with fail
   refine (kF v _ _ w).mono ?_;rintro e w5 ⟨rfl,rfl⟩;go_wp2;go_ret
   exact⟨by rw[HQ.out];rfl,rfl⟩
  ·have e3:(k == 3)=false:=by simp[h3]
   have h23:¬ (k=2\/k=3):=fun q=>q.elim h2 h3;by_cases h5:k=5
   ·have HQ:Hid (res=bI v 1 15):=hid (by rw[KEY.out,if_neg h23,if_pos h5])
    subst h5;go_enter Tryz.func48,Tryz.ntmps48
    go_wp2_with fail
    refine (kF v _ _ w).mono ?_;rintro e w5 ⟨rfl,rfl⟩;go_wp2;go_ret
    exact⟨by rw[HQ.out];rfl,rfl⟩
   ·have e5:(k == 5)=false:=by simp[h5]
    by_cases h6:k=6
    ·have HQ:Hid (res=bI v 0 3):=hid (by rw[KEY.out,if_neg h23,if_neg h5,if_pos h6])
     subst h6;go_enter Tryz.func48,Tryz.ntmps48
     go_wp2_with fail
     refine (kF v _ _ w).mono ?_;rintro e w5 ⟨rfl,rfl⟩;go_wp2;go_ret
     exact⟨by rw[HQ.out];rfl,rfl⟩
    ·have e6:(k == 6)=false:=by simp[h6]
     by_cases h9:k=9
     ·have HQ:Hid (res=bI v 0 1125899906842624):=hid (by rw[KEY.out,if_neg h23,if_neg h5,if_neg h6,if_pos h9])
      subst h9;go_enter Tryz.func48,Tryz.ntmps48
      go_wp2_with fail
      refine (kF v _ _ w).mono ?_;rintro e w5 ⟨rfl,rfl⟩;go_wp2;go_ret
      exact⟨by rw[HQ.out];rfl,rfl⟩
     ·have e9:(k == 9)=false:=by simp[h9]
      have HQ:Hid (res=(v == 0)):=hid (by rw[KEY.out,if_neg h23,if_neg h5,if_neg h6,if_neg h9,Bool.eq_iff_iff];simp);clear h2 h3 h23 h5 h6 h9;go_enter Tryz.func48,Tryz.ntmps48
      go_wp2;go_ret
      exact⟨by rw[HQ.out];rfl,rfl⟩
def FcJ (w:World) (l:List Ft) (vi:Value) (wr:World):Prop:=
 ∃ k:Nat,k<=l.length/\vi=.int .i64 k/\fe (fun i=>xI (l.getD i iT)) l.length 0=fe (fun i=>xI (l.getD i iT)) (l.length-k) k/\Only [] w wr
theorem rFault {w:World} {p:Option Addr} {n cap:Nat} {l:List Ft} (hv:aS ftC 5 w p n cap l) (hn:n<=100000) :
  Calls Tryz.prog 29 #[.slice p n cap] w fun e w'=>e=.returned (.int .i64 (lS l))/\Only [] w w':=by
 have hl:=hv.len;subst hl;have HV:=hid hv;clear hv;go_enter Tryz.func29,Tryz.ntmps29
 by_cases h32:32<l.length
 ·have d2:decide ((l.length:Int) > 32)=true:=by simp;omega
  have d3:decide (32<(l.length:Int))=true:=by simp;omega
  have HX:Hid (lS l=6):=hid (by unfold lS;rw[if_pos h32]);go_wp2;go_ret
  exact⟨by rw[HX.out];rfl,Only.refl _ _⟩
 ·have d2 : decide ((l.length:Int) > 32)=false:=by simp;omega
  have d3:decide (32<(l.length:Int))=false:=by simp;omega
  have HX:Hid (lS l=fe (fun i=>xI (l.getD i iT)) l.length 0):=hid (by unfold lS;rw[if_neg h32]);go_wp2;go_loopw [3] (fun vi wr=>FcJ w l vi wr) (fun vi _=>l.length-(intOf vi).toNat)
  case atStart=>exact⟨0,Nat.zero_le _,rfl,rfl,Only.refl _ _⟩
  case round =>
   clear d2 d3;obtain⟨k,hk,rfl,hfe,ho⟩:=hrel;have HF:=hid hfe;have OO:=hid ho;clear hfe ho;by_cases hlt:k<l.length
   ·obtain⟨bk,off,hp,c0,c1,c2,c3,c4,lb⟩:=HV.out.ft OO.out hlt
    subst hp;have HNO:Hid (∀ r,xI (l.getD k iT)=r->r≠0->lS l=r):=hid (fun r h h'=>by rw[HX.out,HF.out,mG hlt (by rw[h];exact h'),h]);have HYE:Hid (xI (l.getD k iT)=0->fe (fun i=>xI (l.getD i iT)) l.length 0=fe (fun i=>xI (l.getD i iT)) (l.length-(k+1)) (k+1)):=hid (fun h=>by rw[HF.out,iQ hlt h]);generalize l.getD k iT=s at c0 c1 c2 c3 c4 HNO HYE;go_upto_region 7 with (fail)
    refine aF (G:=fun w0=>Code.wp _ _ _ _ w0) ?_;intro w2 hb2 ho2 hs2;have E2:=hid hb2;have O2:=hid (OO.out.aB ho2);clear hb2 ho2 hs2 c0 c1 c2 c3 c4 lb;have c0:=aA E2.out 0;have c1:=aA E2.out 1;have c2:=aA E2.out 2;have c3:=aA E2.out 3;have c4:=aA E2.out 4;have le:=aD E2.out;have hE:xI s=if bI s.n 0 23=true/\bI s.f 0 1125899906842624=true/\bI s.t 0 1125899906842624=true then (if s.t<s.f then 12 else if bI s.k 1 9=true then (if fits s.k s.v=true then 0 else 3) else 8) else 3:=rfl
    go_wp2_with fail
    refine (kF s.n 0 23 w2).mono ?_;rintro e w5 ⟨rfl,rfl⟩;by_cases hn:bI s.n 0 23=true
    ·rw [hn]
     go_wp2_with fail
     refine (kF s.f 0 1125899906842624 w2).mono ?_;rintro e w5 ⟨rfl,rfl⟩;by_cases hf:bI s.f 0 1125899906842624=true
     ·rw [hf]
      go_wp2_with fail
      refine (kF s.t 0 1125899906842624 w2).mono ?_;rintro e w5 ⟨rfl,rfl⟩;by_cases ht:bI s.t 0 1125899906842624=true
      ·rw [ht]
       by_cases ho:s.t<s.f
       ·have ox:decide (s.f > s.t)=true:=by simp;omega
        have oy:decide (s.t<s.f)=true:=by simp;omega
        have HQ:Hid (lS l=12):=hid (HNO.out _ (by rw[hE,if_pos ⟨hn,hf,ht⟩,if_pos ho]) (by decide));clear hE hn hf ht ho;go_wp2;go_ret
        exact⟨by rw[HQ.out];rfl,O2.out⟩
       ·have ox:decide (s.f > s.t)=false:=by simp;omega
        have oy:decide (s.t<s.f)=false:=by simp;omega
        have HE2:Hid (xI s=if bI s.k 1 9=true then (if fits s.k s.v=true then 0 else 3) else 8):=hid (by rw[hE,if_pos ⟨hn,hf,ht⟩,if_neg ho]);clear ho;go_wp2_with fail
        refine (kF s.k 1 9 w2).mono ?_;rintro e w5 ⟨rfl,rfl⟩;by_cases hk9:bI s.k 1 9=true
        ·rw[hk9]
         go_wp2_with fail
         refine (rFits s.k s.v w2).mono ?_;rintro e w5 ⟨rfl,rfl⟩;by_cases hv:fits s.k s.v=true
         ·rw[hv]
          have HQ:=hid (HYE.out (by rw[HE2.out,if_pos hk9,if_pos hv]));clear hE hn hf ht hk9 hv;go_wp2;go_roundw
          case rel=>exact⟨k+1,by omega,by go_num,HQ.out,O2.out⟩
          case measure=>first|(simp[intOf];done)|(simp[intOf];omega)
         ·have HQ:Hid (lS l=3):=hid (HNO.out _ (by rw[HE2.out,if_pos hk9,if_neg hv]) (by decide))
          rw[Bool.not_eq_true] at hv;rw[hv];clear hE hn hf ht hk9 hv;go_wp2;go_ret
          exact⟨by rw[HQ.out];rfl,O2.out⟩
        ·have HQ:Hid (lS l=8):=hid (HNO.out _ (by rw[HE2.out,if_neg hk9]) (by decide))
         rw[Bool.not_eq_true] at hk9;rw[hk9];clear hE hn hf ht hk9;go_wp2;go_ret
         exact⟨by rw[HQ.out];rfl,O2.out⟩
      ·have HQ:Hid (lS l=3):=hid (HNO.out _ (by rw[hE,if_neg (fun q=>ht q.2.2)]) (by decide))
       rw[Bool.not_eq_true] at ht;rw[ht];clear hE;go_wp2;go_ret
       exact⟨by rw[HQ.out];rfl,O2.out⟩
     ·have HQ:Hid (lS l=3):=hid (HNO.out _ (by rw[hE,if_neg (fun q=>hf q.2.1)]) (by decide))
      rw[Bool.not_eq_true] at hf;rw[hf];clear hE;go_wp2;go_ret
      exact⟨by rw[HQ.out];rfl,O2.out⟩
    ·have HQ:Hid (lS l=3):=hid (HNO.out _ (by rw[hE,if_neg (fun q=>hn q.1)]) (by decide))
     rw[Bool.not_eq_true] at hn;rw[hn];clear hE;go_wp2;go_ret
     exact⟨by rw[HQ.out];rfl,O2.out⟩
   ·have HY:Hid (lS l=0):=hid (by rw[HX.out,HF.out,iR (by omega)])
    obtain rfl:k=l.length:=by omega
    go_wp2;go_ret
    exact⟨by rw[HY.out];rfl,OO.out⟩
end
section
def HasI (w:World) (l:List Int) (x:Int) (vi:Value) (wr:World):Prop:=∃ k:Nat,k<=l.length/\vi=.int .i64 k/\x ∉ l.take k/\wr=w
theorem rHas {w:World} {p:Option Addr} {n cap:Nat} {l:List Int} (x:Int) (hv:aS YP 1 w p n cap l) (hn:n<=100000) :
  Calls Tryz.prog 64 #[.slice p n cap,.int .i64 x] w fun e w'=>e=.returned (.bool (decide (x∈l)))/\w'=w:=by
 have hl:=hv.len;subst hl;have HV:=hid hv;clear hv;go_enter Tryz.func64,Tryz.ntmps64
 go_wp2;go_loopw [5] (fun vi wr=>HasI w l x vi wr) (fun vi _=>l.length-(intOf vi).toNat)
 case atStart=>exact⟨0,Nat.zero_le _,rfl,by simp,rfl⟩
 case round =>
  obtain⟨k,hk,rfl,hno,rfl⟩:=hrel;have HNO:=hid hno;clear hno;by_cases hlt:k<l.length
  ·obtain⟨bk,off,hp,c0,lb⟩:=HV.out.it (Only.refl _ _) hlt
   subst hp;have hgk:=getD_some 0 hlt;have HY:Hid (l.getD k 0=x->x∈l):=hid (fun h=>by rw[<-h];exact List.mem_of_getElem? hgk)
   have HN:Hid (l.getD k 0≠x->x ∉ l.take (k+1)):=hid (fun h q=>by
    rw[List.take_add_one,hgk] at q;rcases List.mem_append.1 q with q|q
    ·exact HNO.out q
    ·simp only[Option.toList_some,List.mem_singleton] at q
     exact h q.symm)
   generalize l.getD k 0=y at c0 HY HN;clear hgk;by_cases hy:y=x
   ·have e1:(y == x)=true:=by simp[hy]
    have HQ:=hid (HY.out hy);clear hy HY HN;go_wp2;go_ret
    exact⟨by rw[decide_eq_true HQ.out];rfl,rfl⟩
   ·have e1:(y == x)=false:=by simp[hy]
    have HQ:=hid (HN.out hy);clear hy HY HN;go_wp2;go_roundw
    case rel=>exact⟨k+1,by omega,by go_num,HQ.out,rfl⟩
    case measure=>first|(simp[intOf];done)|(simp[intOf];omega)
  ·obtain rfl:k=l.length:=by omega
   have HQ:Hid (x ∉ l):=hid (by have:=HNO.out;rwa [List.take_of_length_le (Nat.le_refl _)] at this);go_wp2;go_ret
   exact⟨by rw[decide_eq_false HQ.out];rfl,rfl⟩
def SvK (w:World) (l:List Int) (i nodes:Int) (vi:Value) (wr:World):Prop:=
 ∃ k:Nat,k<=l.length/\vi=.int .i64 k/\fe (yT l i nodes) l.length 0=fe (yT l i nodes) (l.length-k) k/\Only [] w wr
def xR (sv:List Int) (i nodes:Int):Int:=if 12<sv.length then 6 else fe (yT sv i nodes) sv.length 0
theorem JB {w:World} {p:Option Addr} {n cap:Nat} {sv:List Int} (i nodes:Int) (hv:aS YP 1 w p n cap sv) (hn:n<=100000) :
  Calls Tryz.prog 44 #[.slice p n cap,.int .i64 i,.int .i64 nodes] w fun e w'=>e=.returned (.int .i64 (xR sv i nodes))/\Only [] w w':=by
 have hl:=hv.len;subst hl;have hcap:=hv.le;have HW:=hid hv;clear hv;have hE:xR sv i nodes=if 12<sv.length then 6 else fe (yT sv i nodes) sv.length 0:=rfl
 generalize xR sv i nodes=res at hE |-;have HE:=hid hE;clear hE;go_enter Tryz.func44,Tryz.ntmps44
 by_cases h12:12<sv.length
 ·have h12x:decide ((sv.length:Int) > 12)=true:=dF (by omega)
  have h12y:decide (12<(sv.length:Int))=true:=dF (by omega);have h12z:decide (12<sv.length)=true:=dF (by omega);have HQ:Hid (res=6):=hid (by rw[HE.out,if_pos h12]);clear h12;go_wp2;go_ret
  exact⟨by rw[HQ.out];rfl,Only.refl _ _⟩
 ·have h12x:decide ((sv.length:Int) > 12)=false:=bR (by omega)
  have h12y:decide (12<(sv.length:Int))=false:=bR (by omega);have h12z:decide (12<sv.length)=false:=bR (by omega);have HRF:Hid (res=fe (yT sv i nodes) sv.length 0):=hid (by rw[HE.out,if_neg h12]);clear h12;go_wp2;clear h12x h12y h12z;go_loopw [7] (fun vi wr=>SvK w sv i nodes vi wr) (fun vi _=>sv.length-(intOf vi).toNat)
  case atStart=>exact⟨0,Nat.zero_le _,rfl,rfl,Only.refl _ _⟩
  case round =>
   obtain⟨k,hk,rfl,hfe,ho⟩:=hrel;have HF:=hid hfe;have OO:=hid ho;clear hfe ho;by_cases hlt:k<sv.length
   ·obtain⟨bk,off,hp,c0,lb⟩:=HW.out.it OO.out hlt
    have HT:=hid (HW.out.take k (Nat.le_of_lt hlt));subst hp
    have HNO:Hid (∀ r,yT sv i nodes k=r->r≠0->res=r):=hid (fun r h h'=>by
     have:=HF.out.trans (mG hlt (by rw[h];exact h'));rw[h] at this;rw[HRF.out,this])
    have HYE:Hid (yT sv i nodes k=0->fe (yT sv i nodes) sv.length 0=fe (yT sv i nodes) (sv.length-(k+1)) (k+1)):=hid (fun h=>by rw[HF.out,iQ hlt h]);have hE:yT sv i nodes k=if bI (sv.getD k 0) 0 (nodes-1)=true then (if sv.getD k 0=i then 18 else if sv.getD k 0∈sv.take k then 10 else 0) else 3:=rfl
    generalize sv.getD k 0=s at c0 hE;by_cases hs:bI s 0 (nodes-1)=true
    ·obtain⟨hs0,hs1⟩:=bH.1 hs
     have hsx:decide (s<0)=false:=by simp;omega
     have hsy:decide (s >= nodes)=false:=by simp;omega
     have hsz:decide (nodes<=s)=false:=by simp;omega
     by_cases hi:s=i
     ·have ix:(s == i)=true:=by simp[hi]
      have HQ:Hid (res=18):=hid (HNO.out _ (by rw[hE,if_pos hs,if_pos hi]) (by decide));clear hE hs hi;go_wp2;go_ret
      exact⟨by rw[HQ.out];rfl,OO.out⟩
     ·have ix:(s == i)=false:=by simp[hi]
      have z1:(k:Int)<=(cap:Int):=by omega
      have z2:k<=cap:=by omega
      have HIN:Hid (s∈sv.take k->res=10):=hid (fun hin=>HNO.out _ (by rw[hE,if_pos hs,if_neg hi,if_pos hin]) (by decide));have HNI:=hid (fun (hin:s ∉ sv.take k)=>HYE.out (by rw[hE,if_pos hs,if_neg hi,if_neg hin]));clear hE hs hi HNO HYE;go_upto_region 10 with (fail)
      refine aL [0,1,2,3,4,5,6] [7,8] (by kernel_rfl) (by kernel_rfl) ?_;simp only[pick,List.map_cons,List.map_nil,List.getD_cons_succ,List.getD_cons_zero];iterate 7 (refine wpQuiet_step (fun K hK=>?_);go_simp;refine hK _ ?_;clear hK K)
      refine wpQuiet_nil ?_;intro w7 hw7;have O7:=hid (OO.out.aB (aI hw7));clear hw7 c0 lb z1 z2 hsx hsy hsz ix;go_wp2_with fail
      refine (rHas s (HT.out.kept O7.out) (by omega)).mono ?_;rintro e w8 ⟨rfl,rfl⟩;by_cases hin:s∈sv.take k
      ·have HQ:=hid (HIN.out hin)
       rw[dF hin];clear hin HIN HNI;go_wp2;go_ret
       exact⟨by rw[HQ.out];rfl,O7.out⟩
      ·have HQ:=hid (HNI.out hin)
       rw[bR hin];clear hin HIN HNI;go_wp2;go_roundw
       case rel=>exact⟨k+1,by omega,by go_num,HQ.out,O7.out⟩
       case measure=>first|(simp[intOf];done)|(simp[intOf];omega)
    ·have HQ:Hid (res=3):=hid (HNO.out _ (by rw[hE,if_neg hs]) (by decide))
     clear hE;rcases dP hs with hq|⟨hq,hr⟩
     ·have hsx:decide (s<0)=true:=by simp;omega
      go_wp2;go_ret
      exact⟨by rw[HQ.out];rfl,OO.out⟩
     ·have hsx:decide (s<0)=false:=by simp;omega
      have hsy:decide (s >= nodes)=true:=by simp;omega
      have hsz:decide (nodes<=s)=true:=by simp;omega
      go_wp2;go_ret
      exact⟨by rw[HQ.out];rfl,OO.out⟩
   ·have HQ:Hid (res=0):=hid (by rw[HRF.out,HF.out,iR (by omega)])
    obtain rfl:k=sv.length:=by omega
    go_wp2;go_ret
    exact⟨by rw[HQ.out];rfl,OO.out⟩
def LW (rf:Bool) (st:Int) (sv:List Int) (i nodes:Int):Int:=if rf=true/\0<sv.length then 7 else if xR sv i nodes=0 then (if bI st 0 1125899906842624=true then 0 else 3) else xR sv i nodes
theorem OG (rf:Bool) (st:Int) (sv:List Int) (i nodes:Int):BJ rf st sv i nodes=LW rf st sv i nodes:=by
 unfold BJ LW JV xR;by_cases h12:12<sv.length
 ·simp only[if_pos h12];rfl
 ·simp only[if_neg h12]
theorem rNode {w:World} {ps pv:Option Addr} {cs cv:Nat} (n:Nd) (i nodes:Int) (hv:aS I8 2 w ps n.sg.length cs n.sg) (hw:aS YP 1 w pv n.sv.length cv n.sv) (hn:n.sg.length<=100000) (hm:n.sv.length<=100000) :
  Calls Tryz.prog 26 #[ndV n ps cs pv cv,.int .i64 i,.int .i64 nodes] w fun e w'=>e=.returned (.int .i64 (wI n i nodes))/\Only [] w w':=by
 obtain⟨ph,sg,tol,rf,er,st,sv⟩:=n;have HV:=hid hv;have HW:=hid hw;clear hv hw;have HNE:=hid (show wI ⟨ph,sg,tol,rf,er,st,sv⟩ i nodes=(if cZ ph sg=0 then (if bI tol 0 500000=true then JW ph sg tol er rf st sv i nodes else 3) else cZ ph sg) from rfl);generalize wI ⟨ph,sg,tol,rf,er,st,sv⟩ i nodes=res at HNE |-;unfold ndV;dsimp only at hn hm HV HW |-;go_enter Tryz.func26,Tryz.ntmps26
 go_upto_region 1 with (fail)
 refine aF (G:=fun w0=>Code.wp _ _ _ _ w0) ?_;intro w1 hb1 ho1 hs1;have B1:=hid hb1;have O1:=hid ho1;clear hb1 ho1 hs1;have g0:=aA B1.out 0;have g1:=aA B1.out 1;have l0:=aD B1.out;go_wp2_with fail
 refine (rOsc ph (HV.out.kept O1.out) hn).mono ?_;rintro e w2 ⟨rfl,ho2⟩;have B2:=hid (ho2.got B1.out (by simp));have O2:=hid (O1.out.aB ho2);clear ho2 g0 g1 l0 B1 O1;have g0:=aA B2.out 0;have g1:=aA B2.out 1;have g2:=aA B2.out 2;have g3:=aA B2.out 3;have g4:=aA B2.out 4;have g5:=aA B2.out 5;have g6:=aA B2.out 6;have l0:=aD B2.out;by_cases hosc:cZ ph sg=0
 ·by_cases htol:bI tol 0 500000=true
  ·obtain ⟨htol0,htol1⟩:=bH.1 htol
   have htolx:decide (tol<0)=false:=by simp;omega
   have htoly:decide (tol > 500000)=false:=by simp;omega
   have htolz:decide (500000<tol)=false:=by simp;omega
   have HN1:Hid (res=JW ph sg tol er rf st sv i nodes):=hid (by rw[HNE.out,if_pos hosc,if_pos htol]);rw[hosc];clear htol hosc htol0 htol1;by_cases hbd:tol<kV ph sg
   ·have bx:decide (tol<kV ph sg)=true:=by simp[hbd]
    have HQ:Hid (res=15):=hid (by rw[HN1.out];unfold JW;rw[if_pos hbd]);clear hbd;go_wp2_with fail
    refine aL [0,1,2,3,4,5,6] [] (by kernel_rfl) (by kernel_rfl) ?_;simp only[pick,List.map_cons,List.map_nil,List.getD_cons_succ,List.getD_cons_zero];iterate 4 (refine wpQuiet_step (fun K hK=>?_);go_simp;refine hK _ ?_;clear hK K)
    refine aX (by kernel_rfl) 43 #[.agg #[.int .i64 ph,.slice ps sg.length cs]] (fun _=>by kernel_rfl) (.int .i64 (kV ph sg)) (bM fun w' ho'=>V9 ph (HV.out.kept (O2.out.aB ho')) hn) ?_;iterate 1 (refine wpQuiet_step (fun K hK=>?_);go_simp;refine hK _ ?_;clear hK K)
    repeat (go_big_quiet_step (fail))
    refine wpQuiet_nil ?_;intro w3 hw3;have O3:=hid (O2.out.aB (aI hw3));have B3:=hid ((aI hw3).got B2.out (by simp));clear hw3 g0 g1 g2 g3 g4 g5 g6 l0 O2 B2;go_wp2;go_ret
    exact⟨by rw[HQ.out];rfl,O3.out⟩
   ·have bx:decide (tol<kV ph sg)=false:=by simpa using hbd
    have HN2:Hid (res=yF er rf st sv i nodes):=hid (by rw[HN1.out];unfold JW;rw[if_neg hbd]);clear hbd;go_wp2_with fail
    refine aL [0,1,2,3,4,5,6] [] (by kernel_rfl) (by kernel_rfl) ?_;simp only[pick,List.map_cons,List.map_nil,List.getD_cons_succ,List.getD_cons_zero];iterate 4 (refine wpQuiet_step (fun K hK=>?_);go_simp;refine hK _ ?_;clear hK K)
    refine aX (by kernel_rfl) 43 #[.agg #[.int .i64 ph,.slice ps sg.length cs]] (fun _=>by kernel_rfl) (.int .i64 (kV ph sg)) (bM fun w' ho'=>V9 ph (HV.out.kept (O2.out.aB ho')) hn) ?_;iterate 1 (refine wpQuiet_step (fun K hK=>?_);go_simp;refine hK _ ?_;clear hK K)
    repeat (go_big_quiet_step (fail))
    refine wpQuiet_nil ?_;intro w3 hw3;have O3:=hid (O2.out.aB (aI hw3));have B3:=hid ((aI hw3).got B2.out (by simp));clear hw3 g0 g1 g2 g3 g4 g5 g6 l0 O2 B2;clear bx htolx htoly htolz;have g2:=aA B3.out 3;have g3:=aA B3.out 4;have g4:=aA B3.out 5;have g5:=aA B3.out 6;have l0:=aD B3.out;by_cases her:bI er 0 1125899906842624=true
    ·obtain⟨her0,her1⟩:=bH.1 her
     have herx:decide (er<0)=false:=by simp;omega
     have hery:decide (er > 1125899906842624)=false:=by simp;omega
     have herz:decide (1125899906842624<er)=false:=by simp;omega
     cases rf with
     | true =>
      have HN3:Hid (res=LW true st sv i nodes):=hid (by rw[HN2.out];unfold yF;rw[if_pos ⟨her,.inr rfl⟩,OG]);clear her her0 her1;by_cases h0:0<sv.length
      ·have h0x:decide ((sv.length:Int) > 0)=true:=dF (by omega)
       have h0y:decide (0<(sv.length:Int))=true:=dF (by omega);have h0z:decide (0<sv.length)=true:=dF (by omega);have HQ:Hid (res=7):=hid (by rw[HN3.out];unfold LW;rw[if_pos ⟨rfl,h0⟩]);clear h0;go_wp2;go_ret
       exact⟨by rw[HQ.out];rfl,O3.out⟩
      ·have h0x:decide ((sv.length:Int) > 0)=false:=bR (by omega)
       have h0y:decide (0<(sv.length:Int))=false:=bR (by omega);have h0z:decide (0<sv.length)=false:=bR (by omega);have HN4:Hid (res=if xR sv i nodes=0 then (if bI st 0 1125899906842624=true then 0 else 3) else xR sv i nodes):=hid (by rw[HN3.out];unfold LW;rw[if_neg (fun q=>h0 q.2)]);clear h0;have HSV:=hid (JB i nodes (HW.out.kept O3.out) hm);generalize xR sv i nodes=se at HN4 HSV;go_wp2_with fail
       refine HSV.out.mono ?_;rintro e w4 ⟨rfl,ho4⟩;have B4:=hid (ho4.got B3.out (by simp));have O4:=hid (O3.out.aB ho4);clear ho4 g2 g3 g4 g5 l0;have g4:=aA B4.out 5;have l0:=aD B4.out;by_cases hse:se=0
       ·have HRG:Hid (res=if bI st 0 1125899906842624=true then 0 else 3):=hid (by rw[HN4.out,if_pos hse])
        subst hse;by_cases ht:bI st 0 1125899906842624=true
        ·obtain⟨ht0,ht1⟩:=bH.1 ht
         have htx:decide (st<0)=false:=by simp;omega
         have hty:decide (st > 1125899906842624)=false:=by simp;omega
         have htz:decide (1125899906842624<st)=false:=by simp;omega
         have HQ:Hid (res=0):=hid (by rw[HRG.out,if_pos ht]);clear ht;go_wp2;go_ret
         exact⟨by rw[HQ.out];rfl,O4.out⟩
        ·have HQ:Hid (res=3):=hid (by rw[HRG.out,if_neg ht])
         rcases dP ht with hq|⟨hq,hr⟩
         ·have htx:decide (st<0)=true:=by simp;omega
          clear ht;go_wp2;go_ret
          exact⟨by rw[HQ.out];rfl,O4.out⟩
         ·have htx:decide (st<0)=false:=by simp;omega
          have hty:decide (st > 1125899906842624)=true:=by simp;omega
          have htz:decide (1125899906842624<st)=true:=by simp;omega
          clear ht;go_wp2;go_ret
          exact⟨by rw[HQ.out];rfl,O4.out⟩
       ·have HQ:Hid (res=se):=hid (by rw[HN4.out,if_neg hse])
        have sx:(se == 0)=false:=by simp[hse]
        clear hse;go_wp2;go_ret
        exact⟨by rw[HQ.out];rfl,O4.out⟩
     | false =>
      by_cases hz:er=0
      ·have ez:(er != 0)=false:=by simp[hz]
       have ew:(er == 0)=true:=by simp[hz]
       have HN3:Hid (res=LW false st sv i nodes):=hid (by rw[HN2.out];unfold yF;rw[if_pos ⟨her,.inl hz⟩,OG]);have HN4:Hid (res=if xR sv i nodes=0 then (if bI st 0 1125899906842624=true then 0 else 3) else xR sv i nodes):=hid (by rw[HN3.out];unfold LW;rw[if_neg (fun q=>by cases q.1)]);clear her hz her0 her1;have HSV:=hid (JB i nodes (HW.out.kept O3.out) hm);generalize xR sv i nodes=se at HN4 HSV;go_wp2_with fail
       refine HSV.out.mono ?_;rintro e w4 ⟨rfl,ho4⟩;have B4:=hid (ho4.got B3.out (by simp));have O4:=hid (O3.out.aB ho4);clear ho4 g2 g3 g4 g5 l0;have g4:=aA B4.out 5;have l0:=aD B4.out;by_cases hse:se=0
       ·have HRG:Hid (res=if bI st 0 1125899906842624=true then 0 else 3):=hid (by rw[HN4.out,if_pos hse])
        subst hse;by_cases ht:bI st 0 1125899906842624=true
        ·obtain⟨ht0,ht1⟩:=bH.1 ht
         have htx:decide (st<0)=false:=by simp;omega
         have hty:decide (st > 1125899906842624)=false:=by simp;omega
         have htz:decide (1125899906842624<st)=false:=by simp;omega
         have HQ:Hid (res=0):=hid (by rw[HRG.out,if_pos ht]);clear ht;go_wp2;go_ret
         exact⟨by rw[HQ.out];rfl,O4.out⟩
        ·have HQ:Hid (res=3):=hid (by rw[HRG.out,if_neg ht])
         rcases dP ht with hq|⟨hq,hr⟩
         ·have htx:decide (st<0)=true:=by simp;omega
          clear ht;go_wp2;go_ret
          exact⟨by rw[HQ.out];rfl,O4.out⟩
         ·have htx:decide (st<0)=false:=by simp;omega
          have hty:decide (st > 1125899906842624)=true:=by simp;omega
          have htz:decide (1125899906842624<st)=true:=by simp;omega
          clear ht;go_wp2;go_ret
          exact⟨by rw[HQ.out];rfl,O4.out⟩
       ·have HQ:Hid (res=se):=hid (by rw[HN4.out,if_neg hse])
        have sx:(se == 0)=false:=by simp[hse]
        clear hse;go_wp2;go_ret
        exact⟨by rw[HQ.out];rfl,O4.out⟩
      ·have ez:(er != 0)=true:=by simp[hz]
       have ew:(er == 0)=false:=by simp[hz]
       have HQ:Hid (res=3):=hid (by rw[HN2.out];unfold yF;rw[if_neg (fun q=>by rcases q.2 with q|q;exact hz q;cases q)]);clear her hz her0 her1;go_wp2;go_ret
       exact⟨by rw[HQ.out];rfl,O3.out⟩
    ·have HQ:Hid (res=3):=hid (by rw[HN2.out];unfold yF;rw[if_neg (fun q=>her q.1)])
     rcases dP her with hq|⟨hq,hr⟩
     ·have herx:decide (er<0)=true:=by simp;omega
      clear her;go_wp2;go_ret
      exact⟨by rw[HQ.out];rfl,O3.out⟩
     ·have herx:decide (er<0)=false:=by simp;omega
      have hery:decide (er > 1125899906842624)=true:=by simp;omega
      have herz:decide (1125899906842624<er)=true:=by simp;omega
      clear her;go_wp2;go_ret
      exact⟨by rw[HQ.out];rfl,O3.out⟩
  ·have HQ:Hid (res=3):=hid (by rw[HNE.out,if_pos hosc,if_neg htol])
   rw[hosc];rcases dP htol with hq|⟨hq,hr⟩
   ·have htolx:decide (tol<0)=true:=by simp;omega
    clear htol hosc;go_wp2;go_ret
    exact⟨by rw[HQ.out];rfl,O2.out⟩
   ·have htolx:decide (tol<0)=false:=by simp;omega
    have htoly:decide (tol > 500000)=true:=by simp;omega
    have htolz:decide (500000<tol)=true:=by simp;omega
    clear htol hosc;go_wp2;go_ret
    exact⟨by rw[HQ.out];rfl,O2.out⟩
 ·have HQ:Hid (res=cZ ph sg):=hid (by rw[HNE.out,if_neg hosc])
  have ox:(cZ ph sg != 0)=true:=by simp[hosc]
  have oy:(cZ ph sg == 0)=false:=by simp[hosc]
  clear hosc;go_wp2;go_ret
  exact⟨by rw[HQ.out];rfl,O2.out⟩
end
end Go.Proofs.YthbgcpfklmlnjaaGreat
