/- Sb Sc Sd Se -/
import Derived.Test.YthbgcpfklmlnjaaGreatFS8
import Derived.Test.YthbgcpfklmlnjaaGreatFAg7
namespace Go.Proofs.YthbgcpfklmlnjaaGreat
set_option maxRecDepth 100000
set_option maxHeartbeats 8000000
open Go.RowKit
open Go.Lib (hid)
section
def YP (s:Int):List Value:=[.int .i64 s]
theorem aS.it {w wr:World} {cap k:Nat} {p:Option Addr} {l:List Int} (hv:aS YP 1 w p l.length cap l) (ho:Only [] w wr) (hk:k<l.length) :
  ∃ bk off,p=some ⟨bk,off,none⟩/\wr.cell? ⟨bk,off+k,none⟩=some (.int .i64 (l.getD k 0))/\bk<wr.heap.size:=by
 obtain⟨bk,off,hp,hb,hc⟩:=hv.at_ ho (getD_some 0 hk);exact⟨bk,off,hp,by have:=hc 0 _ rfl;rwa [Nat.mul_one,Nat.add_zero] at this,hb⟩
def ndV (n:Nd) (ps:Option Addr) (cs:Nat) (pv:Option Addr) (cv:Nat):Value:=
 .agg #[.int .i64 n.ph,.slice ps n.sg.length cs,.int .i64 n.tol,.bool n.rf,.int .i64 n.er,.int .i64 n.st,.slice pv n.sv.length cv]
def snS (l:List Int) (k:Int):Option Bool:=if k∈l then some true else none
def SvI (w:World) (b:Nat) (l:List Int) (i nodes:Int) (vi:Value) (wr:World):Prop:=
 ∃ k:Nat,k<=l.length/\vi=.int .i64 k/\fe (yT l i nodes) l.length 0=fe (yT l i nodes) (l.length-k) k/\pV (fun n:Int=>Value.int .i64 n) Value.bool wr b (snS (l.take k))/\Only [] w wr
def JV (st:Int) (sv:List Int) (i nodes:Int):Int:=if fe (yT sv i nodes) sv.length 0=0 then (if bI st 0 1125899906842624=true then 0 else 3) else fe (yT sv i nodes) sv.length 0
def BJ (rf:Bool) (st:Int) (sv:List Int) (i nodes:Int):Int:=if rf=true/\0<sv.length then 7 else if 12<sv.length then 6 else JV st sv i nodes
def yF (er:Int) (rf:Bool) (st:Int) (sv:List Int) (i nodes:Int):Int:=if bI er 0 1125899906842624=true/\(er=0\/rf=true) then BJ rf st sv i nodes else 3
def JW (ph:Int) (sg:List Sg) (tol er:Int) (rf:Bool) (st:Int) (sv:List Int) (i nodes:Int):Int:=if tol<kV ph sg then 15 else yF er rf st sv i nodes
theorem pNode {w:World} {ps pv:Option Addr} {cs cv:Nat} (n:Nd) (i nodes:Int) (hv:aS I8 2 w ps n.sg.length cs n.sg) (hw:aS YP 1 w pv n.sv.length cv n.sv) (hn:n.sg.length<=100000) (hm:n.sv.length<=100000) :
  Calls Tryz.prog 22 #[ndV n ps cs pv cv,.int .i64 i,.int .i64 nodes] w fun e w'=>e=.returned (.int .i64 (wI n i nodes))/\Only [] w w':=by
 obtain⟨ph,sg,tol,rf,er,st,sv⟩:=n;have HV:=hid hv;have HW:=hid hw;clear hv hw;have HNE:=hid (show wI ⟨ph,sg,tol,rf,er,st,sv⟩ i nodes=(if cZ ph sg=0 then (if bI tol 0 500000=true then JW ph sg tol er rf st sv i nodes else 3) else cZ ph sg) from rfl);generalize wI ⟨ph,sg,tol,rf,er,st,sv⟩ i nodes=res at HNE |-;unfold ndV;dsimp only at hn hm HV HW |-;have HMM:=hid (@run_makeMap Tryz.prog);go_enter Tryz.func22,Tryz.ntmps22
 go_upto_region 1 with (fail)
 refine aF (G:=fun w0=>Code.wp _ _ _ _ w0) ?_;intro w1 hb1 ho1 hs1;have B1:=hid hb1;have O1:=hid ho1;clear hb1 ho1 hs1;have g0:=aA B1.out 0;have g1:=aA B1.out 1;have l0:=aD B1.out;go_wp2_with fail
 refine (pOsc ph (HV.out.kept O1.out) hn).mono ?_;rintro e w2 ⟨rfl,ho2⟩;have B2:=hid (ho2.got B1.out (by simp));have O2:=hid (O1.out.aB ho2);clear ho2 g0 g1 l0 B1 O1;have g0:=aA B2.out 0;have g1:=aA B2.out 1;have g2:=aA B2.out 2;have g3:=aA B2.out 3;have g4:=aA B2.out 4;have g5:=aA B2.out 5;have g6:=aA B2.out 6;have l0:=aD B2.out;by_cases hosc:cZ ph sg=0
 focus
  by_cases htol:bI tol 0 500000=true
  focus
   obtain⟨htol0,htol1⟩:=bH.1 htol;have htolx:decide (tol<0)=false:=by simp;omega
   have htoly:decide (tol > 500000)=false:=by simp;omega
   have htolz:decide (500000<tol)=false:=by simp;omega
   have HN1:Hid (res=JW ph sg tol er rf st sv i nodes):=hid (by rw[HNE.out,if_pos hosc,if_pos htol]);rw[hosc];clear htol hosc htol0 htol1;by_cases hbd:tol<kV ph sg
   focus
    have bx:decide (tol<kV ph sg)=true:=by simp[hbd]
    have HQ:Hid (res=15):=hid (by rw[HN1.out];unfold JW;rw[if_pos hbd]);clear hbd;go_wp2_with fail
    refine aL [0,1,2,3,4,5,6] [] (by kernel_rfl) (by kernel_rfl) ?_;simp only[pick,List.map_cons,List.map_nil,List.getD_cons_succ,List.getD_cons_zero];iterate 4 (refine wpQuiet_step (fun K hK=>?_);go_simp;refine hK _ ?_;clear hK K)
    refine aX (by kernel_rfl) 39 #[.agg #[.int .i64 ph,.slice ps sg.length cs]] (fun _=>by kernel_rfl) (.int .i64 (kV ph sg)) (bM fun w' ho'=>X3 ph (HV.out.kept (O2.out.aB ho')) hn) ?_;iterate 1 (refine wpQuiet_step (fun K hK=>?_);go_simp;refine hK _ ?_;clear hK K)
    repeat (go_big_quiet_step (fail))
    refine wpQuiet_nil ?_;intro w3 hw3;have O3:=hid (O2.out.aB (aI hw3));have B3:=hid ((aI hw3).got B2.out (by simp));clear hw3 g0 g1 g2 g3 g4 g5 g6 l0 O2 B2;go_wp2;go_ret
    exact⟨by rw[HQ.out];rfl,O3.out⟩
   focus
    have bx:decide (tol<kV ph sg)=false:=by simpa using hbd
    have HN2:Hid (res=yF er rf st sv i nodes):=hid (by rw[HN1.out];unfold JW;rw[if_neg hbd]);clear hbd;go_wp2_with fail
    refine aL [0,1,2,3,4,5,6] [] (by kernel_rfl) (by kernel_rfl) ?_;simp only[pick,List.map_cons,List.map_nil,List.getD_cons_succ,List.getD_cons_zero];iterate 4 (refine wpQuiet_step (fun K hK=>?_);go_simp;refine hK _ ?_;clear hK K)
    refine aX (by kernel_rfl) 39 #[.agg #[.int .i64 ph,.slice ps sg.length cs]] (fun _=>by kernel_rfl) (.int .i64 (kV ph sg)) (bM fun w' ho'=>X3 ph (HV.out.kept (O2.out.aB ho')) hn) ?_;iterate 1 (refine wpQuiet_step (fun K hK=>?_);go_simp;refine hK _ ?_;clear hK K)
    repeat (go_big_quiet_step (fail))
    refine wpQuiet_nil ?_;intro w3 hw3;have O3:=hid (O2.out.aB (aI hw3));have B3:=hid ((aI hw3).got B2.out (by simp));clear hw3 g0 g1 g2 g3 g4 g5 g6 l0 O2 B2;clear bx htolx htoly htolz;have g3:=aA B3.out 3;have g4:=aA B3.out 4;have g5:=aA B3.out 5;have g6:=aA B3.out 6;have l0:=aD B3.out;by_cases her:bI er 0 1125899906842624=true
    focus
     obtain⟨her0,her1⟩:=bH.1 her;have herx:decide (er<0)=false:=by simp;omega
     have hery:decide (er > 1125899906842624)=false:=by simp;omega
     have herz:decide (1125899906842624<er)=false:=by simp;omega
     cases rf
     focus
      by_cases hz:er=0
      focus
       have ez:(er != 0)=false:=by simp[hz]
       have ew:(er == 0)=true:=by simp[hz]
       have HN3:Hid (res=BJ false st sv i nodes):=hid (by rw[HN2.out];unfold yF;rw[if_pos ⟨her,.inl hz⟩]);clear her hz her0 her1;have HN4:Hid (res=if 12<sv.length then 6 else JV st sv i nodes):=hid (by rw[HN3.out];unfold BJ;rw[if_neg (fun q=>by cases q.1)]);by_cases h12:12<sv.length
       focus
        have h12x:decide ((sv.length:Int) > 12)=true:=dF (by omega);have h12y:decide (12<(sv.length:Int))=true:=dF (by omega);have h12z:decide (12<sv.length)=true:=dF (by omega);have HQ:Hid (res=6):=hid (by rw[HN4.out,if_pos h12]);clear h12;go_wp2;go_ret
        exact⟨by rw[HQ.out];rfl,O3.out⟩
       rotate_left
      rotate_left
      focus
       have ez:(er != 0)=true:=by simp[hz]
       have ew:(er == 0)=false:=by simp[hz]
       have HQ:Hid (res=3):=hid (by rw[HN2.out];unfold yF;rw[if_neg (fun q=>q.2.elim hz (fun h=>by cases h))]);clear hz her her0 her1;go_wp2;go_ret
       exact⟨by rw[HQ.out];rfl,O3.out⟩
     rotate_left
     focus
      by_cases hz:er=0
      focus
       have ez:(er != 0)=false:=by simp[hz]
       have ew:(er == 0)=true:=by simp[hz]
       have HN3:Hid (res=BJ true st sv i nodes):=hid (by rw[HN2.out];unfold yF;rw[if_pos ⟨her,.inr rfl⟩]);clear her hz her0 her1;by_cases h0:0<sv.length
       focus
        have h0x:decide ((sv.length:Int) > 0)=true:=dF (by omega);have h0y:decide (0<(sv.length:Int))=true:=dF (by omega);have h0z:decide (0<sv.length)=true:=dF (by omega);have HQ:Hid (res=7):=hid (by rw[HN3.out];unfold BJ;rw[if_pos ⟨rfl,h0⟩]);clear h0;go_wp2;go_ret
        exact⟨by rw[HQ.out];rfl,O3.out⟩
       focus
        have h0x:decide ((sv.length:Int) > 0)=false:=bR (by omega);have h0y:decide (0<(sv.length:Int))=false:=bR (by omega);have h0z:decide (0<sv.length)=false:=bR (by omega);have HN4:Hid (res=if 12<sv.length then 6 else JV st sv i nodes):=hid (by rw[HN3.out];unfold BJ;rw[if_neg (fun q=>h0 q.2)]);clear h0;by_cases h12:12<sv.length
        focus
         have h12x:decide ((sv.length:Int) > 12)=true:=dF (by omega);have h12y:decide (12<(sv.length:Int))=true:=dF (by omega);have h12z:decide (12<sv.length)=true:=dF (by omega);have HQ:Hid (res=6):=hid (by rw[HN4.out,if_pos h12]);clear h12;go_wp2;go_ret
         exact⟨by rw[HQ.out];rfl,O3.out⟩
        rotate_left
       rotate_left
      rotate_left
      focus
       have ez:(er != 0)=true:=by simp[hz]
       have ew:(er == 0)=false:=by simp[hz]
       have HN3:Hid (res=BJ true st sv i nodes):=hid (by rw[HN2.out];unfold yF;rw[if_pos ⟨her,.inr rfl⟩]);clear her hz her0 her1;by_cases h0:0<sv.length
       focus
        have h0x:decide ((sv.length:Int) > 0)=true:=dF (by omega);have h0y:decide (0<(sv.length:Int))=true:=dF (by omega);have h0z:decide (0<sv.length)=true:=dF (by omega);have HQ:Hid (res=7):=hid (by rw[HN3.out];unfold BJ;rw[if_pos ⟨rfl,h0⟩]);clear h0;go_wp2;go_ret
        exact⟨by rw[HQ.out];rfl,O3.out⟩
       focus
        have h0x:decide ((sv.length:Int) > 0)=false:=bR (by omega);have h0y:decide (0<(sv.length:Int))=false:=bR (by omega);have h0z:decide (0<sv.length)=false:=bR (by omega);have HN4:Hid (res=if 12<sv.length then 6 else JV st sv i nodes):=hid (by rw[HN3.out];unfold BJ;rw[if_neg (fun q=>h0 q.2)]);clear h0;by_cases h12:12<sv.length
        focus
         have h12x:decide ((sv.length:Int) > 12)=true:=dF (by omega);have h12y:decide (12<(sv.length:Int))=true:=dF (by omega);have h12z:decide (12<sv.length)=true:=dF (by omega);have HQ:Hid (res=6):=hid (by rw[HN4.out,if_pos h12]);clear h12;go_wp2;go_ret
         exact⟨by rw[HQ.out];rfl,O3.out⟩
        rotate_left
       rotate_left
      rotate_left
     rotate_left 2
    rotate_left 3
    focus
     have HQ:Hid (res=3):=hid (by rw[HN2.out];unfold yF;rw[if_neg (fun q=>her q.1)]);rcases dP her with hq|⟨hq,hr⟩
     ·have herx:decide (er<0)=true:=by simp;omega
      clear her;go_wp2;go_ret
      exact⟨by rw[HQ.out];rfl,O3.out⟩
     ·have herx:decide (er<0)=false:=by simp;omega
      have hery:decide (er > 1125899906842624)=true:=by simp;omega
      have herz:decide (1125899906842624<er)=true:=by simp;omega
      clear her;go_wp2;go_ret
      exact⟨by rw[HQ.out];rfl,O3.out⟩
   rotate_left 3
  rotate_left 3
  focus
   have HQ:Hid (res=3):=hid (by rw[HNE.out,if_pos hosc,if_neg htol]);rw[hosc];rcases dP htol with hq|⟨hq,hr⟩
   ·have htolx:decide (tol<0)=true:=by simp;omega
    clear htol hosc;go_wp2;go_ret
    exact⟨by rw[HQ.out];rfl,O2.out⟩
   ·have htolx:decide (tol<0)=false:=by simp;omega
    have htoly:decide (tol > 500000)=true:=by simp;omega
    have htolz:decide (500000<tol)=true:=by simp;omega
    clear htol hosc;go_wp2;go_ret
    exact⟨by rw[HQ.out];rfl,O2.out⟩
 rotate_left 3
 focus
  have ox:(cZ ph sg != 0)=true:=by simp[hosc]
  have oy:(cZ ph sg == 0)=false:=by simp[hosc]
  have HQ:Hid (res=cZ ph sg):=hid (by rw[HNE.out,if_neg hosc]);clear hosc;go_wp2;go_ret
  exact⟨by rw[HQ.out];rfl,O2.out⟩
 all_goals
  have h12x:decide ((sv.length:Int) > 12)=false:=bR (by omega);have h12y:decide (12<(sv.length:Int))=false:=bR (by omega);have h12z:decide (12<sv.length)=false:=bR (by omega);have HRF:Hid (res=JV st sv i nodes):=hid (by rw[HN4.out,if_neg h12]);clear h12;have hmm:=HMM.out;clear HMM;go_wp2;clear hmm;go_loopw [68] (fun vi wr=>SvI w3 w3.heap.size sv i nodes vi wr) (fun vi _=>sv.length-(intOf vi).toNat)
  case atStart=>exact⟨0,Nat.zero_le _,rfl,rfl,by rw[List.take_zero];exact BL (bA _ _),(Only.refl _ _).alloc _⟩
  case round =>
   clear g3 g4 g5 g6 l0;obtain⟨k,hk,rfl,hfe,hmp,ho⟩:=hrel;have HF:=hid hfe;have MM:=hid hmp;have OO:=hid ho;have OA:=hid (O3.out.aB ho);have B4:=hid (ho.got B3.out (by simp));clear hfe hmp ho;by_cases hlt:k<sv.length
   ·obtain⟨bk,off,hp,c0,lb⟩:=HW.out.it OA.out hlt
    subst hp
    have HNO:Hid (∀ r,yT sv i nodes k=r->r≠0->res=r):=hid (fun r h h'=>by
     have:=HF.out.trans (mG hlt (by rw[h];exact h'));rw[h] at this;rw[HRF.out];unfold JV;rw[this,if_neg h'])
    have HYE:Hid (yT sv i nodes k=0->fe (yT sv i nodes) sv.length 0=fe (yT sv i nodes) (sv.length-(k+1)) (k+1)):=hid (fun h=>by rw[HF.out,iQ hlt h]);have hE:yT sv i nodes k=if bI (sv.getD k 0) 0 (nodes-1)=true then (if sv.getD k 0=i then 18 else if sv.getD k 0∈sv.take k then 10 else 0) else 3:=rfl
    have HTK:Hid ((snS (sv.take (k+1)))=fun k'=>if k'=sv.getD k 0 then some true else snS (sv.take k) k'):=hid (by
     funext k'
     have hgk:=getD_some 0 hlt;unfold snS;rw[List.take_add_one,hgk];by_cases hq:k'=sv.getD k 0
     ·rw[if_pos hq,if_pos (by simp[hq])]
     ·rw[if_neg hq]
      by_cases hr:k'∈sv.take k
      ·rw[if_pos hr,if_pos (by simp[hr])]
      ·rw[if_neg hr,if_neg (by simp only[Option.toList_some,List.mem_append,List.mem_singleton];exact fun q=>q.elim hr hq)])
    have HZ:Hid (∀ w,(zeroValue 4).run Tryz.prog w=.ok (.bool false) w):=hid Tryz.zeroValue4;generalize sv.getD k 0=s at c0 hE HTK;by_cases hs:bI s 0 (nodes-1)=true
    ·obtain⟨hs0,hs1⟩:=bH.1 hs
     have hsx:decide (s<0)=false:=by simp;omega
     have hsy:decide (s >= nodes)=false:=by simp;omega
     have hsz:decide (nodes<=s)=false:=by simp;omega
     by_cases hi:s=i
     ·have ix:(s == i)=true:=by simp[hi]
      have HQ:Hid (res=18):=hid (HNO.out _ (by rw[hE,if_pos hs,if_pos hi]) (by decide));clear hE hs hi;go_wp2;go_ret
      exact⟨by rw[HQ.out];rfl,OA.out⟩
     ·have ix:(s == i)=false:=by simp[hi]
      by_cases hin:s∈sv.take k
      ·have HQ:Hid (res=10):=hid (HNO.out _ (by rw[hE,if_pos hs,if_neg hi,if_pos hin]) (by decide))
       have hsn:snS (sv.take k) s=some true:=by unfold snS;rw[if_pos hin]
       go_wp2_with (at_lookup;refine bD ?_)
       refine cK ?_;refine fM (kE:=fun n:Int=>Value.int .i64 n) (vE:=Value.bool) rfl _ _ 107 false rfl 3 4 (fD Tryz.underlying3) Tryz.underlying107 (.bool false) (HZ.out _) w3.heap.size _ rfl MM.out s rfl ?_;rw[hsn];simp only[Option.map_some,Option.getD_some,Bool.false_eq_true,if_false];clear hE hs hi hin hsn;go_wp2;go_ret
       exact⟨by rw[HQ.out];rfl,OA.out⟩
      ·have HQ:=hid (HYE.out (by rw[hE,if_pos hs,if_neg hi,if_neg hin]))
       have hsn:snS (sv.take k) s=none:=by unfold snS;rw[if_neg hin]
       go_wp2_with (at_lookup;refine bD ?_)
       refine cK ?_;refine fM (kE:=fun n:Int=>Value.int .i64 n) (vE:=Value.bool) rfl _ _ 107 false rfl 3 4 (fD Tryz.underlying3) Tryz.underlying107 (.bool false) (HZ.out _) w3.heap.size _ rfl MM.out s rfl ?_;rw[hsn];simp only[Option.map_none,Option.getD_none,Bool.false_eq_true,if_false];clear hE hs hi hin hsn;go_wp2_with (at_mapUpdate;refine bD ?_)
       refine cK ?_;refine oV (kE:=fun n:Int=>Value.int .i64 n) (vE:=Value.bool) rfl _ _ _ 107 rfl 3 4 (fD Tryz.underlying3) Tryz.underlying107 w3.heap.size _ rfl MM.out s rfl true rfl ?_;intro w5 hm5 ho5 hs5;have M5:=hid hm5;have O5:=hid (OO.out.trans ho5 (fun x hx=>.inr (by simp at hx;omega)));clear hm5 ho5 hs5 MM OO;go_wp2;go_roundw
       case rel=>exact⟨k+1,by omega,by go_num,HQ.out,by rw[HTK.out];exact M5.out,O5.out⟩
       case measure=>first|(simp[intOf];done)|(simp[intOf];omega)
    ·have HQ:Hid (res=3):=hid (HNO.out _ (by rw[hE,if_neg hs]) (by decide))
     clear hE;rcases dP hs with hq|⟨hq,hr⟩
     ·have hsx:decide (s<0)=true:=by simp;omega
      go_wp2;go_ret
      exact⟨by rw[HQ.out];rfl,OA.out⟩
     ·have hsx:decide (s<0)=false:=by simp;omega
      have hsy:decide (s >= nodes)=true:=by simp;omega
      have hsz:decide (nodes<=s)=true:=by simp;omega
      go_wp2;go_ret
      exact⟨by rw[HQ.out];rfl,OA.out⟩
   ·have hf0:fe (yT sv i nodes) sv.length 0=0:=by rw[HF.out,iR (by omega)]
    have HRG:Hid (res=if bI st 0 1125899906842624=true then 0 else 3):=hid (by rw[HRF.out];unfold JV;rw[if_pos hf0]);clear hf0;obtain rfl:k=sv.length:=by omega
    have g5:=aA B4.out 5;have l0:=aD B4.out;by_cases ht:bI st 0 1125899906842624=true
    ·obtain⟨ht0,ht1⟩:=bH.1 ht
     have htx:decide (st<0)=false:=by simp;omega
     have hty:decide (st > 1125899906842624)=false:=by simp;omega
     have htz:decide (1125899906842624<st)=false:=by simp;omega
     have HQ:Hid (res=0):=hid (by rw[HRG.out,if_pos ht]);clear ht;go_wp2;go_ret
     exact⟨by rw[HQ.out];rfl,OA.out⟩
    ·have HQ:Hid (res=3):=hid (by rw[HRG.out,if_neg ht])
     rcases dP ht with hq|⟨hq,hr⟩
     ·have htx:decide (st<0)=true:=by simp;omega
      clear ht;go_wp2;go_ret
      exact⟨by rw[HQ.out];rfl,OA.out⟩
     ·have htx:decide (st<0)=false:=by simp;omega
      have hty:decide (st > 1125899906842624)=true:=by simp;omega
      have htz:decide (1125899906842624<st)=true:=by simp;omega
      clear ht;go_wp2;go_ret
      exact⟨by rw[HQ.out];rfl,OA.out⟩
end
section
structure dQ where
 l:Lk
 p:Option Addr
 c:Nat
structure lM where
 n:Nd
 ps:Option Addr
 cs:Nat
 pv:Option Addr
 cv:Nat
def lkC (x:dQ):List Value:=[.int .i64 x.l.A,.int .i64 x.l.B,.int .i64 x.l.d0,.int .i64 x.l.d1,.int .i64 x.l.v0,.int .i64 x.l.v1,.int .i64 x.l.lo,.int .u64 x.l.sd,.slice x.p x.l.ch.length x.c]
def slV (x:dQ):Value:=.agg #[.int .i64 x.l.A,.int .i64 x.l.B,.int .i64 x.l.d0,.int .i64 x.l.d1,.int .i64 x.l.v0,.int .i64 x.l.v1,.int .i64 x.l.lo,.int .u64 x.l.sd,.slice x.p x.l.ch.length x.c]
def ndC (x:lM):List Value:=[.int .i64 x.n.ph,.slice x.ps x.n.sg.length x.cs,.int .i64 x.n.tol,.bool x.n.rf,.int .i64 x.n.er,.int .i64 x.n.st,.slice x.pv x.n.sv.length x.cv]
theorem P8 (x:dQ):(lkC x).length=9:=rfl
theorem P5 (x:lM):(ndC x).length=7:=rfl
structure dQ.Ok (w:World) (x:dQ):Prop where
 row:aS UE 3 w x.p x.l.ch.length x.c x.l.ch
 len:x.l.ch.length<=100000
structure lM.Ok (w:World) (x:lM):Prop where
 seg:aS I8 2 w x.ps x.n.sg.length x.cs x.n.sg
 srv:aS YP 1 w x.pv x.n.sv.length x.cv x.n.sv
 len:x.n.sg.length<=100000
 ren:x.n.sv.length<=100000
theorem dQ.Ok.kept {w w':World} {x:dQ} (h:x.Ok w) (ho:Only [] w w'):x.Ok w':=⟨h.row.kept ho,h.len⟩
theorem lM.Ok.kept {w w':World} {x:lM} (h:x.Ok w) (ho:Only [] w w'):x.Ok w':=⟨h.seg.kept ho,h.srv.kept ho,h.len,h.ren⟩
def iE:dQ:=⟨yG,none,0⟩
def aU:lM:=⟨nd0,none,0,none,0⟩
theorem aS.lk {w wr:World} {cap k:Nat} {p:Option Addr} {l:List dQ} (hv:aS lkC 9 w p l.length cap l) (ho:Only [] w wr) (hk:k<l.length) :
  ∃ bk off,p=some ⟨bk,off,none⟩/\bk<wr.heap.size/\wr.cell? ⟨bk,off+k*9,none⟩=some (.int .i64 (l.getD k iE).l.A)/\wr.cell? ⟨bk,off+k*9+1,none⟩=some (.int .i64 (l.getD k iE).l.B)
   /\ wr.cell? ⟨bk,off+k*9+2,none⟩=some (.int .i64 (l.getD k iE).l.d0)/\wr.cell? ⟨bk,off+k*9+3,none⟩=some (.int .i64 (l.getD k iE).l.d1)/\wr.cell? ⟨bk,off+k*9+4,none⟩=some (.int .i64 (l.getD k iE).l.v0)
   /\ wr.cell? ⟨bk,off+k*9+5,none⟩=some (.int .i64 (l.getD k iE).l.v1)/\wr.cell? ⟨bk,off+k*9+6,none⟩=some (.int .i64 (l.getD k iE).l.lo)/\wr.cell? ⟨bk,off+k*9+7,none⟩=some (.int .u64 (l.getD k iE).l.sd)
   /\ wr.cell? ⟨bk,off+k*9+8,none⟩=some (.slice (l.getD k iE).p (l.getD k iE).l.ch.length (l.getD k iE).c):=by
 obtain⟨bk,off,hp,hb,hc⟩:=hv.at_ ho (getD_some iE hk);exact⟨bk,off,hp,hb,hc 0 _ rfl,hc 1 _ rfl,hc 2 _ rfl,hc 3 _ rfl,hc 4 _ rfl,hc 5 _ rfl,hc 6 _ rfl,hc 7 _ rfl,hc 8 _ rfl⟩
theorem aS.nd {w wr:World} {cap k:Nat} {p:Option Addr} {l:List lM} (hv:aS ndC 7 w p l.length cap l) (ho:Only [] w wr) (hk:k<l.length) :
  ∃ bk off,p=some ⟨bk,off,none⟩/\bk<wr.heap.size/\wr.cell? ⟨bk,off+k*7,none⟩=some (.int .i64 (l.getD k aU).n.ph)/\wr.cell? ⟨bk,off+k*7+1,none⟩=some (.slice (l.getD k aU).ps (l.getD k aU).n.sg.length (l.getD k aU).cs)
   /\ wr.cell? ⟨bk,off+k*7+2,none⟩=some (.int .i64 (l.getD k aU).n.tol)/\wr.cell? ⟨bk,off+k*7+3,none⟩=some (.bool (l.getD k aU).n.rf)/\wr.cell? ⟨bk,off+k*7+4,none⟩=some (.int .i64 (l.getD k aU).n.er)
   /\ wr.cell? ⟨bk,off+k*7+5,none⟩=some (.int .i64 (l.getD k aU).n.st)/\wr.cell? ⟨bk,off+k*7+6,none⟩=some (.slice (l.getD k aU).pv (l.getD k aU).n.sv.length (l.getD k aU).cv):=by
 obtain⟨bk,off,hp,hb,hc⟩:=hv.at_ ho (getD_some aU hk);exact⟨bk,off,hp,hb,hc 0 _ rfl,hc 1 _ rfl,hc 2 _ rfl,hc 3 _ rfl,hc 4 _ rfl,hc 5 _ rfl,hc 6 _ rfl⟩
def clE (x:Lk) (QU:List Lk) (nodes:Int):Int:=
 if bI x.A 0 (nodes-1)=true/\bI x.B 0 (nodes-1)=true then (if x.B<=x.A then 12 else if twin QU x=true then 10 else bV x) else 3
theorem YM (l:List Lk) (nodes:Int) (i:Nat):tY l nodes i=clE (l.getD i yG) (l.take i) nodes:=rfl
def ClI (w:World) (x:Lk) (ls:List dQ) (vi:Value) (wr:World):Prop:=
 ∃ k:Nat,k<=ls.length/\vi=.int .i64 k/\twin ((ls.map dQ.l).take k) x=false/\Only [] w wr
theorem pCLink {w:World} {p:Option Addr} {n cap:Nat} {ls:List dQ} (x:dQ) (nodes:Int) (hx:x.Ok w) (hv:aS lkC 9 w p n cap ls) (hn:n<=100000) :
  Calls Tryz.prog 23 #[slV x,.slice p n cap,.int .i64 nodes] w fun e w'=>e=.returned (.int .i64 (clE x.l (ls.map dQ.l) nodes))/\Only [] w w':=by
 have hl:=hv.len;subst hl;obtain⟨⟨A,B,d0,d1,v0,v1,lo,sd,ch⟩,pc,cc⟩:=x;have HV:=hid hv;have HX:=hid hx;clear hv hx;have HE:=hid (show clE ⟨A,B,d0,d1,v0,v1,lo,sd,ch⟩ (ls.map dQ.l) nodes=if bI A 0 (nodes-1)=true/\bI B 0 (nodes-1)=true then (if B<=A then 12 else if twin (ls.map dQ.l) ⟨A,B,d0,d1,v0,v1,lo,sd,ch⟩=true then 10 else bV ⟨A,B,d0,d1,v0,v1,lo,sd,ch⟩) else 3 from rfl);have HP:=hid (fun (w':World) (ho:Only [] w w')=>PK (n:=ch.length) ⟨A,B,d0,d1,v0,v1,lo,sd,ch⟩ (HX.out.row.kept ho) HX.out.len);unfold slV;dsimp only at HP |-;unfold MN at HP;dsimp only at HP;generalize clE ⟨A,B,d0,d1,v0,v1,lo,sd,ch⟩ (ls.map dQ.l) nodes=res at HE |-;clear HX;go_enter Tryz.func23,Tryz.ntmps23
 go_upto_region 1 with (fail)
 refine aF (G:=fun w0=>Code.wp _ _ _ _ w0) ?_;intro w1 hb1 ho1 hs1;have B1:=hid hb1;have O1:=hid ho1;clear hb1 ho1 hs1;have g0:=aA B1.out 0;have g1:=aA B1.out 1;have l0:=aD B1.out;by_cases hA:bI A 0 (nodes-1)=true
 ·obtain⟨hA0,hA1⟩:=bH.1 hA
  have hAx:decide (A<0)=false:=by simp;omega
  have hAy:decide (A >= nodes)=false:=by simp;omega
  have hAz:decide (nodes<=A)=false:=by simp;omega
  by_cases hB:bI B 0 (nodes-1)=true
  ·obtain⟨hB0,hB1⟩:=bH.1 hB
   have hBx:decide (B<0)=false:=by simp;omega
   have hBy:decide (B >= nodes)=false:=by simp;omega
   have hBz:decide (nodes<=B)=false:=by simp;omega
   by_cases ho:B<=A
   ·have ox:decide (A >= B)=true:=dF ho
    have oy:decide (B<=A)=true:=dF ho;have HQ:Hid (res=12):=hid (by rw[HE.out,if_pos ⟨hA,hB⟩,if_pos ho]);clear ho hA hB;go_wp2;go_ret
    exact⟨by rw[HQ.out];rfl,O1.out⟩
   ·have ox:decide (A >= B)=false:=bR ho
    have oy:decide (B<=A)=false:=bR ho;have HR:Hid (res=if twin (ls.map dQ.l) ⟨A,B,d0,d1,v0,v1,lo,sd,ch⟩=true then 10 else bV ⟨A,B,d0,d1,v0,v1,lo,sd,ch⟩):=hid (by rw[HE.out,if_pos ⟨hA,hB⟩,if_neg ho]);clear ho hA hB;go_wp2;clear hAx hAy hAz hBx hBy hBz ox oy hA0 hA1 hB0 hB1;go_loopw [36] (fun vi wr=>ClI w1 ⟨A,B,d0,d1,v0,v1,lo,sd,ch⟩ ls vi wr) (fun vi _=>ls.length-(intOf vi).toNat)
    case atStart=>exact⟨0,Nat.zero_le _,rfl,rfl,Only.refl _ _⟩
    case round =>
     clear g0 g1 l0;obtain⟨k,hk,rfl,htw,ho⟩:=hrel;have HT:=hid htw;have OO:=hid ho;have OA:=hid (O1.out.aB ho);have B2:=hid (ho.got B1.out (by simp));clear htw ho;by_cases hlt:k<ls.length
     ·obtain⟨bk,off,hp,lb,c0,c1,c2,c3,c4,c5,c6,c7,c8⟩:=HV.out.lk OA.out hlt
      subst hp;have hgk:=getD_some iE hlt
      have htk:twin ((ls.map dQ.l).take (k+1)) ⟨A,B,d0,d1,v0,v1,lo,sd,ch⟩=(decide ((ls.getD k iE).l.A=A) && decide ((ls.getD k iE).l.B=B)):=by
       rw[List.take_add_one,List.getElem?_map,hgk];have:=HT.out;unfold twin at this |-;simp only[Option.map_some,Option.toList_some,List.any_append,this,Bool.false_or,List.any_cons,List.any_nil,Bool.or_false]
      have HTF:Hid (twin ((ls.map dQ.l).take (k+1)) ⟨A,B,d0,d1,v0,v1,lo,sd,ch⟩=true->res=10):=hid (fun h=>by
       rw[HR.out,if_pos];unfold twin at h |-;rw[List.any_eq_true] at h |-;obtain⟨y,hy,hq⟩:=h;exact⟨y,List.mem_of_mem_take hy,hq⟩)
      generalize ls.getD k iE=c at c0 c1 c2 c3 c4 c5 c6 c7 c8 htk;have HTK:=hid htk;clear hgk htk;go_upto_region 9 with (fail)
      refine aF (G:=fun w0=>Code.wp _ _ _ _ w0) ?_;intro w4 hb4 ho4 hs4;have E4:=hid hb4;have O4:=hid (OO.out.aB ho4);have OB:=hid (OA.out.aB ho4);have B4:=hid (ho4.got B2.out (by simp));clear hb4 ho4 hs4 c0 c1 c2 c3 c4 c5 c6 c7 c8 lb;have c0:=aA E4.out 0;have c1:=aA E4.out 1;have le:=aD E4.out;have g0:=aA B4.out 0;have g1:=aA B4.out 1;have l0:=aD B4.out;by_cases ha:c.l.A=A
      ·have ax:(c.l.A == A)=true:=by simp[ha]
       by_cases hb:c.l.B=B
       ·have bx:(c.l.B == B)=true:=by simp[hb]
        have HQ:Hid (res=10):=hid (HTF.out (by rw[HTK.out,ha,hb];simp));clear ha hb;go_wp2;go_ret
        exact⟨by rw[HQ.out];rfl,OB.out⟩
       ·have bx:(c.l.B == B)=false:=by simp[hb]
        have HQ:=hid (HTK.out.trans (by rw[bR hb,Bool.and_false]));clear ha hb;go_wp2;go_roundw
        case rel=>exact⟨k+1,by omega,by go_num,HQ.out,O4.out⟩
        case measure=>first|(simp[intOf];done)|(simp[intOf];omega)
      ·have ax:(c.l.A == A)=false:=by simp[ha]
       have HQ:=hid (HTK.out.trans (by rw[bR ha,Bool.false_and]));clear ha;go_wp2;go_roundw
       case rel=>exact⟨k+1,by omega,by go_num,HQ.out,O4.out⟩
       case measure=>first|(simp[intOf];done)|(simp[intOf];omega)
     ·obtain rfl:k=ls.length:=by omega
      have HQ:Hid (res=bV ⟨A,B,d0,d1,v0,v1,lo,sd,ch⟩):=hid (by
       have:=HT.out;rw[List.take_of_length_le (by simp)] at this;rw[HR.out,if_neg (by rw[this];simp)])
      have g2:=aA B2.out 2;have g3:=aA B2.out 3;have g4:=aA B2.out 4;have g5:=aA B2.out 5;have g6:=aA B2.out 6;have g7:=aA B2.out 7;have g8:=aA B2.out 8;have l0:=aD B2.out;go_wp2_with fail
      refine (HP.out wr OA.out).mono ?_;rintro e w5 ⟨rfl,ho5⟩;go_wp2;go_ret
      exact⟨by rw[HQ.out];rfl,OA.out.aB ho5⟩
  ·have HQ:Hid (res=3):=hid (by rw[HE.out,if_neg (fun q=>hB q.2)])
   rcases dP hB with hq|⟨hq,hr⟩
   ·have hBx:decide (B<0)=true:=by simp;omega
    clear hA hB;go_wp2;go_ret
    exact⟨by rw[HQ.out];rfl,O1.out⟩
   ·have hBx:decide (B<0)=false:=by simp;omega
    have hBy:decide (B >= nodes)=true:=by simp;omega
    have hBz:decide (nodes<=B)=true:=by simp;omega
    clear hA hB;go_wp2;go_ret
    exact⟨by rw[HQ.out];rfl,O1.out⟩
 ·have HQ:Hid (res=3):=hid (by rw[HE.out,if_neg (fun q=>hA q.1)])
  rcases dP hA with hq|⟨hq,hr⟩
  ·have hAx:decide (A<0)=true:=by simp;omega
   clear hA;go_wp2;go_ret
   exact⟨by rw[HQ.out];rfl,O1.out⟩
  ·have hAx:decide (A<0)=false:=by simp;omega
   have hAy:decide (A >= nodes)=true:=by simp;omega
   have hAz:decide (nodes<=A)=true:=by simp;omega
   clear hA;go_wp2;go_ret
   exact⟨by rw[HQ.out];rfl,O1.out⟩
end
section
structure dU where
 nd:List lM
 lk:List dQ
 ft:List Ft
 un:Int
 sd:Int
 pn:Option Addr
 cn:Nat
 pl:Option Addr
 cl:Nat
 pf:Option Addr
 cf:Nat
def dU.sc (s:dU):fC:=⟨s.nd.map lM.n,s.lk.map dQ.l,s.ft,s.un,s.sd⟩
def fZ (s:dU):Value:=.agg #[.slice s.pn s.nd.length s.cn,.slice s.pl s.lk.length s.cl,.slice s.pf s.ft.length s.cf,.int .i64 s.un,.int .u64 s.sd]
structure dU.Ok (w:World) (s:dU):Prop where
 nd:aS ndC 7 w s.pn s.nd.length s.cn s.nd
 lk:aS lkC 9 w s.pl s.lk.length s.cl s.lk
 ft:aS ftC 5 w s.pf s.ft.length s.cf s.ft
 ndo:∀ x∈s.nd,x.Ok w
 lko:∀ x∈s.lk,x.Ok w
 ln:s.nd.length<=100000
 ll:s.lk.length<=100000
 lf:s.ft.length<=100000
theorem dU.Ok.kept {w w':World} {s:dU} (h:s.Ok w) (ho:Only [] w w'):s.Ok w':=
 ⟨h.nd.kept ho,h.lk.kept ho,h.ft.kept ho,fun x hx=>(h.ndo x hx).kept ho,fun x hx=>(h.lko x hx).kept ho,h.ln,h.ll,h.lf⟩
def BM (o:Option (Nat × Bool)):Value:=match o with
 | none=>.tuple #[.int .i64 (-1),.int .i64 0]
 | some (i,false)=>.tuple #[.int .i64 i,.int .i64 0]
 | some (i,true)=>.tuple #[.int .i64 i,.int .i64 1]
theorem EF {a b:Int} {l:List Lk} {k:Nat} (hk:k<l.length):ML a b (l.drop k) k=if (l.getD k yG).A=a/\(l.getD k yG).B=b then some (k,false) else if (l.getD k yG).A=b/\(l.getD k yG).B=a then some (k,true) else ML a b (l.drop (k+1)) (k+1):=by
 rw[List.drop_eq_getElem_cons hk,show l.getD k yG=l[k] by simp[List.getD_eq_getElem?_getD,hk]];rfl
def LnI (w:World) (a b:Int) (ls:List dQ) (vi:Value) (wr:World):Prop:=
 ∃ k:Nat,k<=ls.length/\vi=.int .i64 k/\DL (ls.map dQ.l) a b=ML a b ((ls.map dQ.l).drop k) k/\Only [] w wr
theorem pLnk {w:World} (s:dU) (a b:Int) (hs:s.Ok w) :
  Calls Tryz.prog 24 #[fZ s,.int .i64 a,.int .i64 b] w fun e w'=>e=.returned (BM (DL s.sc.lk a b))/\Only [] w w':=by
 obtain⟨nd,ls,ft,un,sd,pn,cn,p,cap,pf,cf⟩:=s;have hn:=hs.ll;have HV:=hid hs.lk;clear hs;show Calls _ _ _ _ (fun e w'=>e=.returned (BM (DL (ls.map dQ.l) a b))/\_)
 unfold fZ;dsimp only at hn HV |-;obtain⟨res,hres⟩:∃ res,res=DL (ls.map dQ.l) a b:=⟨_,rfl⟩;rw[<-hres];have HRS:=hid hres;clear hres;go_enter Tryz.func24,Tryz.ntmps24
 go_upto_region 1 with (fail)
 refine aF (G:=fun w0=>Code.wp _ _ _ _ w0) ?_;intro w1 hb1 ho1 hs1;have B1:=hid hb1;have O1:=hid ho1;clear hb1 ho1 hs1;have g1:=aA B1.out 1;have l0:=aD B1.out;go_wp2;go_loopw [13] (fun vi wr=>LnI w1 a b ls vi wr) (fun vi _=>ls.length-(intOf vi).toNat)
 case atStart=>exact⟨0,Nat.zero_le _,rfl,rfl,Only.refl _ _⟩
 case round =>
  clear g1 l0;obtain⟨k,hk,rfl,hln,ho⟩:=hrel;have HL:=hid (HRS.out.trans hln);have HL0:=hid hln;have OO:=hid ho;have OA:=hid (O1.out.aB ho);clear hln ho;by_cases hlt:k<ls.length
  ·obtain⟨bk,off,hp,lb,c0,c1,c2,c3,c4,c5,c6,c7,c8⟩:=HV.out.lk OA.out hlt
   subst hp;have hdr:=EF (a:=a) (b:=b) (l:=ls.map dQ.l) (k:=k) (by simpa using hlt);rw[show (ls.map dQ.l).getD k yG=(ls.getD k iE).l by simp[List.getD_eq_getElem?_getD,hlt]] at hdr;generalize ls.getD k iE=c at c0 c1 c2 c3 c4 c5 c6 c7 c8 hdr;have HD:=hid hdr;clear hdr;go_upto_region 4 with (fail)
   refine aF (G:=fun w0=>Code.wp _ _ _ _ w0) ?_;intro w4 hb4 ho4 hs4;have E4:=hid hb4;have O4:=hid (OO.out.aB ho4);have OB:=hid (OA.out.aB ho4);clear hb4 ho4 hs4 c0 c1 c2 c3 c4 c5 c6 c7 c8 lb;have c0:=aA E4.out 0;have c1:=aA E4.out 1;have le:=aD E4.out;by_cases h1:c.l.A=a/\c.l.B=b
   ·have HQ:Hid (res=some (k,false)):=hid (by rw[HL.out,HD.out,if_pos h1])
    have ax:(c.l.A == a)=true:=by simp[h1.1]
    have bx:(c.l.B == b)=true:=by simp[h1.2]
    clear h1;go_wp2;refine bodyPost_ret (v:=.tuple #[.int .i64 k,.int .i64 0]) (by simp[results,Tryz.results24,go_sem]) rfl ⟨by rw[HQ.out];rfl,OB.out⟩
   ·by_cases h2:c.l.A=b/\c.l.B=a
    ·have HQ:Hid (res=some (k,true)):=hid (by rw[HL.out,HD.out,if_neg h1,if_pos h2])
     have ay:(c.l.A == b)=true:=by simp[h2.1]
     have bY:(c.l.B == a)=true:=by simp[h2.2]
     by_cases h3:c.l.A=a
     focus
      have ax:(c.l.A == a)=true:=by simp[h3]
      have bx:(c.l.B == b)=false:=by rw[beq_eq_false_iff_ne];exact fun q=>h1 ⟨h3,q⟩
     rotate_left
     focus
      have ax:(c.l.A == a)=false:=by simp[h3]
     rotate_left
     all_goals
      clear h1 h2 h3;go_wp2;refine bodyPost_ret (v:=.tuple #[.int .i64 k,.int .i64 1]) (by simp[results,Tryz.results24,go_sem]) rfl ⟨by rw[HQ.out];rfl,OB.out⟩
    ·have HQ:=hid (HL0.out.trans (by rw[HD.out,if_neg h1,if_neg h2]))
     have hAB:∃ x1 x2 x3 x4:Bool,(c.l.A == a)=x1/\(c.l.B == b)=x2/\(c.l.A == b)=x3/\(c.l.B == a)=x4/\(x1 && x2)=false/\(x3 && x4)=false:=by
      refine⟨_,_,_,_,rfl,rfl,rfl,rfl,?_,?_⟩
      ·rw[Bool.eq_false_iff];intro q;rw[Bool.and_eq_true,beq_iff_eq,beq_iff_eq] at q;exact h1 q
      ·rw[Bool.eq_false_iff];intro q;rw[Bool.and_eq_true,beq_iff_eq,beq_iff_eq] at q;exact h2 q
     clear h1 h2;obtain⟨x1,x2,x3,x4,e1,e2,e3,e4,q1,q2⟩:=hAB
     cases x1<;>cases x3
     rotate_left
     focus
      obtain rfl:x4=false:=by simpa using q2
     rotate_left
     focus
      obtain rfl:x2=false:=by simpa using q1
     rotate_left
     focus
      obtain rfl:x2=false:=by simpa using q1
      obtain rfl:x4=false:=by simpa using q2
     rotate_left
     all_goals
      clear q1 q2;go_wp2;go_roundw
      case rel=>exact⟨k+1,by omega,by go_num,HQ.out,O4.out⟩
      case measure=>first|(simp[intOf];done)|(simp[intOf];omega)
  ·obtain rfl:k=ls.length:=by omega
   have HQ:Hid (res=none):=hid (by rw[HL.out,List.drop_of_length_le (by simp)];rfl);go_wp2;refine bodyPost_ret (v:=.tuple #[.int .i64 (-1),.int .i64 0]) (by simp[results,Tryz.results24,go_sem]) rfl ⟨by rw[HQ.out];rfl,OA.out⟩
end
section
def KO (m:Nat) (ft:List Ft) (un:Int):Int:=if ft.all (fun f=>decide (f.n<m))=true then (if bI un 1 1125899906842624=true then 0 else 3) else 3
def KP (m:Nat) (ft:List Ft) (un:Int):Int:=if lS ft=0 then KO m ft un else lS ft
def KQ (N:List Nd) (L:List Lk) (m:Nat) (ft:List Ft) (un:Int):Int:=if fe (fun i=>zG L i (N.getD i nd0)) m 0=0 then KP m ft un else 11
def KR (N:List Nd) (L:List Lk) (m q:Nat) (ft:List Ft) (un:Int):Int:=if fe (tY L m) q 0=0 then KQ N L m ft un else fe (tY L m) q 0
def KS (N:List Nd) (L:List Lk) (m q:Nat) (ft:List Ft) (un:Int):Int:=if fe (fun i=>wI (N.getD i nd0) i m) m 0=0 then KR N L m q ft un else fe (fun i=>wI (N.getD i nd0) i m) m 0
theorem QM (s:dU):mU s.sc=if s.nd.length=0 then 14 else if 24<s.nd.length\/64<s.lk.length then 6 else KS (s.nd.map lM.n) (s.lk.map dQ.l) s.nd.length s.lk.length s.ft s.un:=by
 unfold mU dU.sc KS KR KQ KP KO;dsimp only;rw[List.length_map,List.length_map]
theorem pG {ns:List lM} {k:Nat} (hk:k<ns.length):(ns.map lM.n).getD k nd0=(ns.getD k aU).n:=by simp[List.getD_eq_getElem?_getD,hk]
theorem lk_at {ns:List dQ} {k:Nat} (hk:k<ns.length):(ns.map dQ.l).getD k yG=(ns.getD k iE).l:=by simp[List.getD_eq_getElem?_getD,hk]
theorem bC {α:Type} {l:List α} {k:Nat} (z:α) (h:k<l.length):l.getD k z∈l:=List.mem_of_getElem? (getD_some z h)
def FeI (w:World) (F:Nat->Int) (n:Nat) (vi:Value) (wr:World):Prop:=∃ k:Nat,k<=n/\vi=.int .i64 k/\fe F n 0=fe F (n-k) k/\Only [] w wr
def AlI {α:Type} (w:World) (P:α->Bool) (l:List α) (vi:Value) (wr:World):Prop:=∃ k:Nat,k<=l.length/\vi=.int .i64 k/\(l.take k).all P=true/\Only [] w wr
theorem vQ {α:Type} {P:α->Bool} {l:List α} {k:Nat} (z:α) (hk:k<l.length) (h:(l.take k).all P=true):(l.take (k+1)).all P=P (l.getD k z):=by
 rw[List.take_add_one,getD_some z hk];simp[List.all_append,h]
theorem IG {α:Type} {P:α->Bool} {l:List α} {k:Nat} (z:α) (hk:k<l.length) (h:P (l.getD k z)=false):¬ l.all P=true:=by
 intro q;rw[List.all_eq_true] at q;rw[q _ (bC z hk)] at h
 cases h
theorem LU {w:World} (s:dU) (hs:s.Ok w) :
  Calls Tryz.prog 13 #[fZ s] w fun e w'=>e=.returned (.int .i64 (mU s.sc))/\Only [] w w':=by
 have hE:=QM s;have hlnk:=fun (a b:Int) (w':World) (ho:Only [] w w')=>pLnk s a b (hs.kept ho);generalize mU s.sc=res at hE |-;obtain⟨ns,ls,ft,un,sd,pn,cn,pl,cl,pf,cf⟩:=s;have hn:=hs.ln;have hl:=hs.ll;have hf:=hs.lf;have HN:=hid hs.nd;have HL:=hid hs.lk;have HFT:=hid hs.ft;have HNO:=hid hs.ndo;have HLO:=hid hs.lko;clear hs;unfold fZ at hlnk |-;dsimp only[dU.sc] at hlnk hE hn hl hf HN HL HFT HNO HLO |-;have HE:=hid hE;have HLNK:=hid hlnk;clear hE hlnk;go_enter Tryz.func13,Tryz.ntmps13
 go_upto_region 1 with (fail)
 refine aF (G:=fun w0=>Code.wp _ _ _ _ w0) ?_;intro w1 hb1 ho1 hs1;have B1:=hid hb1;have O1:=hid ho1;clear hb1 ho1 hs1;have g0:=aA B1.out 0;have g1:=aA B1.out 1;have g2:=aA B1.out 2;have g3:=aA B1.out 3;have g4:=aA B1.out 4;have l0:=aD B1.out;by_cases h0:ns.length=0
 ·have z0:((ns.length:Int) == 0)=true:=by rw[h0];rfl
  have HQ:Hid (res=14):=hid (by rw[HE.out,if_pos h0]);go_wp2;go_ret
  exact⟨by rw[HQ.out];rfl,O1.out⟩
 ·have z0 : ((ns.length:Int) == 0)=false:=by rw[beq_eq_false_iff_ne];omega
  by_cases h24:24<ns.length
  ·have z1:decide ((ns.length:Int) > 24)=true:=dF (by omega)
   have z2:decide (24<(ns.length:Int))=true:=dF (by omega);have HQ:Hid (res=6):=hid (by rw[HE.out,if_neg h0,if_pos (.inl h24)]);go_wp2;go_ret
   exact⟨by rw[HQ.out];rfl,O1.out⟩
  ·have z1 : decide ((ns.length:Int) > 24)=false:=bR (by omega)
   have z2:decide (24<(ns.length:Int))=false:=bR (by omega);by_cases h64:64<ls.length
   ·have z3:decide ((ls.length:Int) > 64)=true:=dF (by omega)
    have z4:decide (64<(ls.length:Int))=true:=dF (by omega);have HQ:Hid (res=6):=hid (by rw[HE.out,if_neg h0,if_pos (.inr h64)]);go_wp2;go_ret
    exact⟨by rw[HQ.out];rfl,O1.out⟩
   ·have z3 : decide ((ls.length:Int) > 64)=false:=bR (by omega)
    have z4:decide (64<(ls.length:Int))=false:=bR (by omega);have z5:True:=trivial;have H1:Hid (res=KS (ns.map lM.n) (ls.map dQ.l) ns.length ls.length ft un):=hid (by rw[HE.out,if_neg h0,if_neg (fun q=>q.elim h24 h64)]);clear h0 h24 h64;go_wp2;clear z0 z1 z2 z3 z4 z5;go_loopw [35] (fun vi wr=>FeI w1 (fun i=>wI ((ns.map lM.n).getD i nd0) i ns.length) ns.length vi wr) (fun vi _=>ns.length-(intOf vi).toNat)
    case atStart=>exact⟨0,Nat.zero_le _,rfl,rfl,Only.refl _ _⟩
    case round =>
     clear g0 g1 g2 g3 g4 l0;obtain⟨k,hk,rfl,hfe,ho⟩:=hrel;have HF:=hid hfe;have OO:=hid ho;have OA:=hid (O1.out.aB ho);have BB:=hid (ho.got B1.out (by simp));clear hfe ho;by_cases hlt:k<ns.length
     ·obtain⟨bk,off,hp,lb,c0,c1,c2,c3,c4,c5,c6⟩:=HN.out.nd OA.out hlt
      subst hp;have HXO:=hid (HNO.out _ (bC aU hlt));have HNV:=hid (fun (w':World) (ho:Only [] w w')=>pNode (ns.getD k aU).n k ns.length (HXO.out.seg.kept ho) (HXO.out.srv.kept ho) HXO.out.len HXO.out.ren)
      have HNN:Hid (wI (ns.getD k aU).n k ns.length≠0->res=wI (ns.getD k aU).n k ns.length):=hid (fun h=>by
       have h2:=HF.out.trans (mG hlt (by rw[pG hlt];exact h));try dsimp only at h2
       rw[pG hlt] at h2;rw[H1.out];unfold KS;rw[h2,if_neg h])
      have HNY:Hid (wI (ns.getD k aU).n k ns.length=0->fe (fun i=>wI ((ns.map lM.n).getD i nd0) i ns.length) ns.length 0=fe (fun i=>wI ((ns.map lM.n).getD i nd0) i ns.length) (ns.length-(k+1)) (k+1)):=hid (fun h=>HF.out.trans (iQ hlt (by rw[pG hlt];exact h)));generalize ns.getD k aU=x at c0 c1 c2 c3 c4 c5 c6 HXO HNV HNN HNY;unfold ndV at HNV;generalize wI x.n k ns.length=er at HNV HNN HNY;go_upto_region 9 with (fail)
      refine aF (G:=fun w0=>Code.wp _ _ _ _ w0) ?_;intro w6 hb6 ho6 hs6;have E6:=hid hb6;have O6:=hid (OO.out.aB ho6);have OB:=hid (OA.out.aB ho6);have B6:=hid (ho6.got BB.out (by simp));clear hb6 ho6 hs6 c0 c1 c2 c3 c4 c5 c6 lb;have c0:=aA E6.out 0;have c1:=aA E6.out 1;have c2:=aA E6.out 2;have c3:=aA E6.out 3;have c4:=aA E6.out 4;have c5:=aA E6.out 5;have c6:=aA E6.out 6;have le:=aD E6.out;have g0:=aA B6.out 0;have g1:=aA B6.out 1;have g2:=aA B6.out 2;have g3:=aA B6.out 3;have g4:=aA B6.out 4;have l0:=aD B6.out;go_wp2_with fail
      refine (HNV.out w6 OB.out).mono ?_;rintro e w7 ⟨rfl,ho7⟩;have O7:=hid (O6.out.aB ho7);have OC:=hid (OB.out.aB ho7);clear ho7 c0 c1 c2 c3 c4 c5 c6 le;clear g0 g1 g2 g3 g4 l0;by_cases h0:er=0
      ·have HQ:=hid (HNY.out h0)
       have ex:(er != 0)=false:=by simp[h0]
       have ey:(er == 0)=true:=by simp[h0]
       clear h0;go_wp2;go_roundw
       case rel=>exact⟨k+1,by omega,by go_num,HQ.out,O7.out⟩
       case measure=>first|(simp[intOf];done)|(simp[intOf];omega)
      ·have HQ:=hid (HNN.out h0)
       have ex:(er != 0)=true:=by simp[h0]
       have ey:(er == 0)=false:=by simp[h0]
       clear h0;go_wp2;go_ret
       exact⟨by rw[HQ.out];rfl,OC.out⟩
     ·have HX0 : fe (fun i=>wI ((ns.map lM.n).getD i nd0) i ns.length) ns.length 0=0:=by rw[HF.out,iR (by omega)]
      obtain rfl:k=ns.length:=by omega
      have H2:Hid (res=KR (ns.map lM.n) (ls.map dQ.l) ns.length ls.length ft un):=hid (by rw[H1.out];unfold KS;rw[if_pos HX0]);clear HX0;obtain⟨w2,hwo⟩:∃ wo:World,wo=wr:=⟨_,rfl⟩;subst hwo;have B2:=BB;have O2:=OA;clear BB OA OO HF;have g0:=aA B2.out 0;have g1:=aA B2.out 1;have g2:=aA B2.out 2;have g3:=aA B2.out 3;have g4:=aA B2.out 4;have l0:=aD B2.out;go_wp2;go_loopw [53] (fun vi wr=>FeI w2 (tY (ls.map dQ.l) ns.length) ls.length vi wr) (fun vi _=>ls.length-(intOf vi).toNat)
      case atStart=>exact⟨0,Nat.zero_le _,rfl,rfl,Only.refl _ _⟩
      case round =>
       clear g0 g1 g2 g3 g4 l0;obtain⟨k,hk,rfl,hfe,ho⟩:=hrel;have HF:=hid hfe;have OO:=hid ho;have OA:=hid (O2.out.aB ho);have BB:=hid (ho.got B2.out (by simp));clear hfe ho;by_cases hlt:k<ls.length
       ·obtain⟨bk,off,hp,lb,c0,c1,c2,c3,c4,c5,c6,c7,c8⟩:=HL.out.lk OA.out hlt
        have hlc:=HL.out.le;have HXO:=hid (HLO.out _ (bC iE hlt));have hle:tY (ls.map dQ.l) ns.length k=clE (ls.getD k iE).l ((ls.take k).map dQ.l) ns.length:=by rw[YM,lk_at hlt,List.map_take]
        have HLV:=hid (fun (w':World) (ho:Only [] w w')=>pCLink (ls.getD k iE) ns.length (HXO.out.kept ho) ((HL.out.take k (Nat.le_of_lt hlt)).kept ho) (by omega));rw[<-hle] at HLV
        have HLN:Hid (tY (ls.map dQ.l) ns.length k≠0->res=tY (ls.map dQ.l) ns.length k):=hid (fun h=>by
         have h2:=HF.out.trans (mG hlt h);rw[H2.out];unfold KR;rw[h2,if_neg h])
        have HLY:Hid (tY (ls.map dQ.l) ns.length k=0->fe (tY (ls.map dQ.l) ns.length) ls.length 0=fe (tY (ls.map dQ.l) ns.length) (ls.length-(k+1)) (k+1)):=hid (fun h=>HF.out.trans (iQ hlt h));subst hp;clear hle;generalize ls.getD k iE=x at c0 c1 c2 c3 c4 c5 c6 c7 c8 HXO HLV;unfold slV at HLV;generalize tY (ls.map dQ.l) ns.length k=er at HLV HLN HLY;go_upto_region 16 with (fail)
        refine aF (G:=fun w0=>Code.wp _ _ _ _ w0) ?_;intro w6 hb6 ho6 hs6;have E6:=hid hb6;have O6:=hid (OO.out.aB ho6);have OB:=hid (OA.out.aB ho6);have B6:=hid (ho6.got BB.out (by simp));clear hb6 ho6 hs6 c0 c1 c2 c3 c4 c5 c6 c7 c8;have c0:=aA E6.out 0;have c1:=aA E6.out 1;have c2:=aA E6.out 2;have c3:=aA E6.out 3;have c4:=aA E6.out 4;have c5:=aA E6.out 5;have c6:=aA E6.out 6;have c7:=aA E6.out 7;have c8:=aA E6.out 8;have le:=aD E6.out;have g0:=aA B6.out 0;have g1:=aA B6.out 1;have g2:=aA B6.out 2;have g3:=aA B6.out 3;have g4:=aA B6.out 4;have l0:=aD B6.out;have z1:(k:Int)<=(cl:Int):=by omega
        have z2:k<=cl:=by omega
        refine aL [0,1,2,3,4,5,6,7] [8,9] (by kernel_rfl) (by kernel_rfl) ?_;simp only[pick,List.map_cons,List.map_nil,List.getD_cons_succ,List.getD_cons_zero];iterate 8 (refine wpQuiet_step (fun K hK=>?_);go_simp;refine hK _ ?_;clear hK K)
        refine wpQuiet_nil ?_;intro w7 hw7;have O7:=hid (O6.out.aB (aI hw7));have OC:=hid (OB.out.aB (aI hw7));clear hw7 c0 c1 c2 c3 c4 c5 c6 c7 c8 le g0 g1 g2 g3 g4 l0 z1 z2;go_wp2_with fail
        refine (HLV.out w7 OC.out).mono ?_;rintro e w8 ⟨rfl,ho8⟩;have O8:=hid (O7.out.aB ho8);have OD:=hid (OC.out.aB ho8);clear ho8;by_cases h0:er=0
        ·have HQ:=hid (HLY.out h0)
         have ex:(er != 0)=false:=by simp[h0]
         have ey:(er == 0)=true:=by simp[h0]
         clear h0;go_wp2;go_roundw
         case rel=>exact⟨k+1,by omega,by go_num,HQ.out,O8.out⟩
         case measure=>first|(simp[intOf];done)|(simp[intOf];omega)
        ·have HQ:=hid (HLN.out h0)
         have ex:(er != 0)=true:=by simp[h0]
         have ey:(er == 0)=false:=by simp[h0]
         clear h0;go_wp2;go_ret
         exact⟨by rw[HQ.out];rfl,OD.out⟩
       ·have HX0:fe (tY (ls.map dQ.l) ns.length) ls.length 0=0:=by rw[HF.out,iR (by omega)]
        obtain rfl:k=ls.length:=by omega
        have H3:Hid (res=KQ (ns.map lM.n) (ls.map dQ.l) ns.length ft un):=hid (by rw[H2.out];unfold KR;rw[if_pos HX0]);clear HX0;obtain⟨w3,hwo⟩:∃ wo:World,wo=wr:=⟨_,rfl⟩;subst hwo;have B3:=BB;have O3:=OA;clear BB OA OO HF;have g0:=aA B3.out 0;have g1:=aA B3.out 1;have g2:=aA B3.out 2;have g3:=aA B3.out 3;have g4:=aA B3.out 4;have l0:=aD B3.out;go_wp2;go_loopw [74] (fun vi wr=>FeI w3 (fun i=>zG (ls.map dQ.l) i ((ns.map lM.n).getD i nd0)) ns.length vi wr) (fun vi _=>ns.length-(intOf vi).toNat)
        case atStart=>exact⟨0,Nat.zero_le _,rfl,rfl,Only.refl _ _⟩
        case round =>
         clear g0 g1 g2 g3 g4 l0;obtain⟨k,hk,rfl,hfe,ho⟩:=hrel;have HF:=hid hfe;have OO:=hid ho;have OA:=hid (O3.out.aB ho);have BB:=hid (ho.got B3.out (by simp));clear hfe ho;by_cases hlt:k<ns.length
         ·obtain⟨bk,off,hp,lb,c0,c1,c2,c3,c4,c5,c6⟩:=HN.out.nd OA.out hlt
          subst hp;have HXO:=hid (HNO.out _ (bC aU hlt))
          have HJN:Hid (zG (ls.map dQ.l) k (ns.getD k aU).n=11->res=11):=hid (fun h=>by
           have h2:=HF.out.trans (mG hlt (by rw[pG hlt,h];decide));try dsimp only at h2
           rw[pG hlt,h] at h2;rw[H3.out];unfold KQ;rw[h2];rfl)
          have HJY:Hid (zG (ls.map dQ.l) k (ns.getD k aU).n=0->fe (fun i=>zG (ls.map dQ.l) i ((ns.map lM.n).getD i nd0)) ns.length 0=fe (fun i=>zG (ls.map dQ.l) i ((ns.map lM.n).getD i nd0)) (ns.length-(k+1)) (k+1)):=hid (fun h=>HF.out.trans (iQ hlt (by rw[pG hlt,h])));generalize ns.getD k aU=x at c0 c1 c2 c3 c4 c5 c6 HXO HJN HJY;have hxr:=HXO.out.ren;go_upto_region 23 with (fail)
          refine aF (G:=fun w0=>Code.wp _ _ _ _ w0) ?_;intro w6 hb6 ho6 hs6;have E6:=hid hb6;have O6:=hid (OO.out.aB ho6);have OB:=hid (OA.out.aB ho6);have B6:=hid (ho6.got BB.out (by simp));clear hb6 ho6 hs6 c0 c1 c2 c3 c4 c5 c6 lb;have s6:=aA E6.out 6;have ls6:=aD E6.out;have g0:=aA B6.out 0;have g1:=aA B6.out 1;have g2:=aA B6.out 2;have g3:=aA B6.out 3;have g4:=aA B6.out 4;have l0:=aD B6.out;go_wp2;go_loopw [82] (fun vi wr=>AlI w6 (fun v=>(DL (ls.map dQ.l) k v).isSome) x.n.sv vi wr) (fun vi _=>x.n.sv.length-(intOf vi).toNat)
          case atStart=>exact⟨0,Nat.zero_le _,rfl,rfl,Only.refl _ _⟩
          case round =>
           clear s6 ls6 g0 g1 g2 g3 g4 l0;obtain⟨j,hj,rfl,hall,ho⟩:=hrel;have HA:=hid hall;have OO':=hid (O6.out.aB ho);have OA':=hid (OB.out.aB ho);have BB':=hid (ho.got B6.out (by simp));have OI:=hid ho;clear hall ho;by_cases hlj:j<x.n.sv.length
           ·obtain⟨bk,off,hp,c0,lb⟩:=(HXO.out.srv).it OA'.out hlj
            have hp6:=hp;have HTK:=hid (vQ (P:=fun v=>(DL (ls.map dQ.l) k v).isSome) 0 hlj HA.out);have HBD:Hid ((DL (ls.map dQ.l) k (x.n.sv.getD j 0)).isSome=false->zG (ls.map dQ.l) k x.n=11):=hid (fun h=>by unfold zG;rw[if_neg (IG (P:=fun v=>(DL (ls.map dQ.l) k v).isSome) 0 hlj h)]);generalize x.n.sv.getD j 0=v at c0 HTK HBD;have g0:=aA BB'.out 0;have g1:=aA BB'.out 1;have g2:=aA BB'.out 2;have g3:=aA BB'.out 3;have g4:=aA BB'.out 4;have l0:=aD BB'.out;rw[hp];clear hp6;go_wp2_with fail
            refine (HLNK.out k v wr OA'.out).mono ?_;rintro e w7 ⟨rfl,ho7⟩;have O7:=hid (OI.out.aB ho7);have OC:=hid (OA'.out.aB ho7);clear ho7;clear g0 g1 g2 g3 g4 l0 c0 lb;generalize DL (ls.map dQ.l) k v=o at HTK HBD |-;rcases o with _|⟨i,d⟩
            ·have HQ:Hid (res=11):=hid (HJN.out (HBD.out rfl))
             unfold BM;dsimp only;go_wp2;go_ret
             exact⟨by rw[HQ.out];rfl,OC.out⟩
            ·have ix:decide ((i:Int)<0)=false:=bR (by omega)
             have HQ:=hid (HTK.out.trans rfl)
             cases d
             rotate_left
             rotate_left
             all_goals
              unfold BM;dsimp only;go_wp2;go_roundw
              case rel=>exact⟨j+1,by omega,by go_num,HQ.out,O7.out⟩
              case measure=>first|(simp[intOf];done)|(simp[intOf];omega)
           ·obtain rfl:j=x.n.sv.length:=by omega
            have hal:=HA.out;rw[List.take_of_length_le (Nat.le_refl _)] at hal;have HQ:=hid (HJY.out (by unfold zG;rw[if_pos hal]));clear hal;go_wp2;go_roundw
            case rel=>exact⟨k+1,by omega,by go_num,HQ.out,OO'.out⟩
            case measure=>first|(simp[intOf];done)|(simp[intOf];omega)
         ·have HX0:fe (fun i=>zG (ls.map dQ.l) i ((ns.map lM.n).getD i nd0)) ns.length 0=0:=by rw[HF.out,iR (by omega)]
          obtain rfl:k=ns.length:=by omega
          have H4:Hid (res=KP ns.length ft un):=hid (by rw[H3.out];unfold KQ;rw[if_pos HX0]);clear HX0;obtain⟨w4,hwo⟩:∃ wo:World,wo=wr:=⟨_,rfl⟩;subst hwo;have B4:=BB;have O4:=OA;clear BB OA OO HF;have g0:=aA B4.out 0;have g1:=aA B4.out 1;have g2:=aA B4.out 2;have g3:=aA B4.out 3;have g4:=aA B4.out 4;have l0:=aD B4.out;go_wp2_with fail
          refine (XQ (HFT.out.kept O4.out) hf).mono ?_;rintro e w5 ⟨rfl,ho5⟩;have B5:=hid (ho5.got B4.out (by simp));have O5:=hid (O4.out.aB ho5);clear ho5;clear g0 g1 g2 g3 g4 l0;have g0:=aA B5.out 0;have g1:=aA B5.out 1;have g2:=aA B5.out 2;have g3:=aA B5.out 3;have g4:=aA B5.out 4;have l0:=aD B5.out;by_cases hc:lS ft=0
          ·have H5:Hid (res=KO ns.length ft un):=hid (by rw[H4.out];unfold KP;rw[if_pos hc])
           rw[hc];clear hc;go_wp2;go_loopw [106] (fun vi wr=>AlI w5 (fun f:Ft=>decide (f.n<(ns.length:Int))) ft vi wr) (fun vi _=>ft.length-(intOf vi).toNat)
           case atStart=>exact⟨0,Nat.zero_le _,rfl,rfl,Only.refl _ _⟩
           case round =>
            clear g0 g1 g2 g3 g4 l0;obtain⟨k,hk,rfl,hfe,ho⟩:=hrel;have HF:=hid hfe;have OO:=hid ho;have OA:=hid (O5.out.aB ho);have BB:=hid (ho.got B5.out (by simp));clear hfe ho;by_cases hlt:k<ft.length
            ·obtain⟨bk,off,hp,c0,c1,c2,c3,c4,lb⟩:=HFT.out.ft OA.out hlt
             subst hp;have HTK:=hid (vQ iT hlt HF.out);have HBD:Hid (decide ((ft.getD k iT).n<(ns.length:Int))=false->res=3):=hid (fun h=>by rw[H5.out];unfold KO;rw[if_neg (IG (P:=fun f:Ft=>decide (f.n<(ns.length:Int))) iT hlt h)]);generalize ft.getD k iT=f at c0 c1 c2 c3 c4 HTK HBD;go_upto_region 37 with (fail)
             refine aF (G:=fun w0=>Code.wp _ _ _ _ w0) ?_;intro w6 hb6 ho6 hs6;have E6:=hid hb6;have O6:=hid (OO.out.aB ho6);have OB:=hid (OA.out.aB ho6);have B6:=hid (ho6.got BB.out (by simp));clear hb6 ho6 hs6 c0 c1 c2 c3 c4 lb;have c0:=aA E6.out 0;have le:=aD E6.out;have g0:=aA B6.out 0;have l0:=aD B6.out;by_cases hc:f.n<(ns.length:Int)
             ·have cx:decide (f.n >= (ns.length:Int))=false:=bR (by omega)
              have cy:decide ((ns.length:Int)<=f.n)=false:=bR (by omega);have HQ:=hid (HTK.out.trans (dF hc));clear hc;go_wp2;go_roundw
              case rel=>exact⟨k+1,by omega,by go_num,HQ.out,O6.out⟩
              case measure=>first|(simp[intOf];done)|(simp[intOf];omega)
             ·have cx:decide (f.n >= (ns.length:Int))=true:=dF (by omega)
              have cy:decide ((ns.length:Int)<=f.n)=true:=dF (by omega);have HQ:=hid (HBD.out (bR hc));clear hc;go_wp2;go_ret
              exact⟨by rw[HQ.out];rfl,OB.out⟩
            ·obtain rfl:k=ft.length:=by omega
             have hal:=HF.out;rw[List.take_of_length_le (Nat.le_refl _)] at hal;have HU:Hid (res=if bI un 1 1125899906842624=true then 0 else 3):=hid (by rw[H5.out];unfold KO;rw[if_pos hal]);clear hal;have g0:=aA BB.out 0;have g1:=aA BB.out 1;have g2:=aA BB.out 2;have g3:=aA BB.out 3;have g4:=aA BB.out 4;have l0:=aD BB.out;by_cases hu:bI un 1 1125899906842624=true
             ·obtain⟨u0,u1⟩:=bH.1 hu
              have ux:decide (un<1)=false:=bR (by omega);have uy:decide (un > 1125899906842624)=false:=bR (by omega);have uz:decide (1125899906842624<un)=false:=bR (by omega);have HQ:Hid (res=0):=hid (by rw[HU.out,if_pos hu]);clear hu;go_wp2;go_ret
              exact⟨by rw[HQ.out];rfl,OA.out⟩
             ·have HQ:Hid (res=3):=hid (by rw[HU.out,if_neg hu])
              rcases dP hu with hq|⟨hq,hr⟩
              ·have ux:decide (un<1)=true:=dF (by omega)
               clear hu;go_wp2;go_ret
               exact⟨by rw[HQ.out];rfl,OA.out⟩
              ·have ux:decide (un<1)=false:=bR (by omega)
               have uy:decide (un > 1125899906842624)=true:=dF (by omega);have uz:decide (1125899906842624<un)=true:=dF (by omega);clear hu;go_wp2;go_ret
               exact⟨by rw[HQ.out];rfl,OA.out⟩
          ·have HQ:Hid (res=lS ft):=hid (by rw[H4.out];unfold KP;rw[if_neg hc])
           have cx:(lS ft != 0)=true:=by simp[hc]
           have cy:(lS ft == 0)=false:=by simp[hc]
           clear hc;go_wp2;go_ret
           exact⟨by rw[HQ.out];rfl,O5.out⟩
end
end Go.Proofs.YthbgcpfklmlnjaaGreat
