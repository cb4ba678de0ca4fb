/- Texts of one chain: Da, Db, Dc, Dd. Conditions: those named in each theorem. -/
import Derived.Test.YthbgcpfklmlnjaaGreatFJe
import Derived.Test.YthbgcpfklmlnjaaGreatFV6
import Derived.Great.Walk
namespace Go.Proofs.YthbgcpfklmlnjaaGreat
open List (flatMap_cons getD_cons_succ getD_cons_zero getElem_mem map_cons map_nil mem_cons mem_flatMap nodup_append not_mem_nil pairwise_cons)
open Go.Lib (hid)
set_option maxRecDepth 100000
set_option maxHeartbeats 16000000
section
open Go.RowKit
theorem Mm.box0 {w0 w:World} {S:List Nat} {n:Nat} {vs:List Value} {t:TypeId} {L:List gJ} (m:Mm w0 S w (⟨n,vs,t,true⟩::L)) (hS:S=[]):∃ b,b=n/\w.heap[b]? = some (.cells vs.toArray t (0,0))/\w0.heap.size<=b/\∀ q∈L,b≠q.b:=
 ⟨n,rfl,m.out.got.1,(m.out.own _ (List.mem_cons_self ..) rfl).resolve_left (by rw[hS];simp),(pairwise_cons.1 m.out.nd).1⟩
theorem Mm.box1 {w0 w:World} {S:List Nat} {n:Nat} {vs:List Value} {t:TypeId} {p:gJ} {L:List gJ} (m:Mm w0 S w (p::⟨n,vs,t,true⟩::L)) (hS:S=[]):∃ b,b=n/\w.heap[b]? = some (.cells vs.toArray t (0,0))/\w0.heap.size<=b/\∀ q∈L,b≠q.b:=
 ⟨n,rfl,m.out.got.2.1,(m.out.own ⟨n,vs,t,true⟩ (by simp) rfl).resolve_left (by rw[hS];simp),(pairwise_cons.1 (pairwise_cons.1 m.out.nd).2).1⟩
theorem Mm.box2 {w0 w:World} {S:List Nat} {n:Nat} {vs:List Value} {t:TypeId} {p q:gJ} {L:List gJ} (m:Mm w0 S w (p::q::⟨n,vs,t,true⟩::L)) (hS:S=[]):∃ b,b=n/\w.heap[b]? = some (.cells vs.toArray t (0,0))/\w0.heap.size<=b/\∀ q∈L,b≠q.b:=
 ⟨n,rfl,m.out.got.2.2.1,(m.out.own ⟨n,vs,t,true⟩ (by simp) rfl).resolve_left (by rw[hS];simp),(pairwise_cons.1 (pairwise_cons.1 (pairwise_cons.1 m.out.nd).2).2).1⟩
theorem lN {P:Program} {w0 w:World} {S:List Nat} {L:List gJ} {fn:Func} {a:Act} {R:Ending->World->Prop} [h:Mm w0 S w L] (hr:fn.results=#[]) (hd:a.defers=[]) (hR:∀ w',Only S w0 w'->Got w' L->R (.returned (.tuple #[])) w'):bodyPost P fn R .normal a w:=
 Go.Great.bodyPost_end0 hr hd (hR w h.out.only h.out.got)
def mE (s:Sr) (i:Int) (p:Np) (q:Qd) (prec tol:Int):Sr:=
 if (sof q prec tol).2=0 then (if (uX p (sof q prec tol).1 i).2=0 then { s with fl:=(GV s.fl (sof q prec tol).1).1,rt:=(uX p (sof q prec tol).1 i).1,hdr:=p,hr:=true } else { s with fl:=(GV s.fl (sof q prec tol).1).1 }) else s
set_option synthInstance.maxSize 2000 in
set_option synthInstance.maxHeartbeats 400000 in
theorem XE {w:World} {bc pb pa pf:Nat} {s:Sr} {tol prec:Int} (ht:w.cell? ⟨bc,1,none⟩=some (.int .i64 tol)) (ht2:w.cell? ⟨bc,2,none⟩=some (.int .i64 prec)) (hlt:bc<w.heap.size) (hB:xM w pb pa pf s) (hF:jQ w pf s.fl) (hpf:pb≠pf/\pf<w.heap.size) (i:Int) (hi0:0<=i) (hi1:i<=100) (p:Np) (hp:eP p) (q:Qd) :
  Calls Tryz.prog 221 #[.pointer (some ⟨bc,0,none⟩),.pointer (some ⟨pb,0,none⟩),.int .i64 i,iL p,qdV q] w fun e w'=>e=.returned (.tuple #[])/\(xM w' pb pa pf (mE s (i+1) p q prec tol)/\jQ w' pf (mE s (i+1) p q prec tol).fl)/\Only [pb,pf] w w':=by
 have HF:=hid hF;have HQ:=hid hp;have hsb:=hB;have lpb:=aD hB;have HOF:=hid (fun w'=>pSOf q prec tol w');obtain⟨res,HR⟩:∃ r,Hid (mE s (i+1) p q prec tol=r):=⟨_,hid rfl⟩;rw[HR.out];unfold mE at HR;generalize sof q prec tol=so at HOF HR;obtain⟨⟨sm1,sm2,sm3,sm4⟩,oe⟩:=so;have HJN:=hid (fun w'=>pJoin p ⟨sm1,sm2,sm3,sm4⟩ (i+1) hp w');obtain⟨q1,q2,q3,q4,q5,q6,q7,q8,q9,q10,q11,q12,q13⟩:=p;obtain⟨y1,y2,y3,y4⟩:=q;simp only[vX,qdV,iL,IU] at HOF HJN |-;dsimp only at HR HOF;unfold xM at hsb;obtain⟨lpf1,lpf2⟩:=hpf;clear hB hp hF;obtain⟨wo,hwo⟩:∃ wo:World,wo=w:=⟨_,rfl⟩;subst hwo;have HX:=hid (fun w' (o:Only [] wo w')=>And.intro (Nat.lt_of_lt_of_le hlt o.size) (And.intro ((o.cell hlt (by simp)).trans ht) ((o.cell hlt (by simp)).trans ht2)));have m:=mY hsb;have k:=m.out.k;have c:=HX.out wo (Only.refl _ _);have HSB:=hid hsb;clear hsb ht ht2 hlt;go_enter Tryz.func221,Tryz.ntmps221
 go_upto_region 1 with (fail)
 refine wU ?_;clear k m c;intro w m k;have c:=HX.out w m.out.only;obtain⟨b1,e1,g1,f1,n1⟩:=m.box0 rfl;obtain⟨b0,e0,g0,f0,n0⟩:=m.box1 rfl;have n10:b1≠b0:=by omega
 rw[<-e1,<-e0] at m k |-;clear n1 n0 e0 e1;by_cases hoe:oe=0
 rotate_left
 focus
  rw[if_neg hoe] at HR;have k5:(oe != 0)=true:=by simpa using hoe
  obtain rfl:=HR.out;go_wp2_with (first|((with_reducible first|refine cU ?_|refine wU ?_);clear k m c;intro w m k;have c:=HX.out w m.out.only)|((with_reducible refine rA (id:=1) [0,1,2,3,4,5,6,7,8,9,10,11,12,13] [14] 15 [16,17] (by kernel_rfl) (by kernel_rfl) ?_);simp only[pick,map_cons,map_nil,getD_cons_succ,getD_cons_zero];(repeat (first|(refine aO (fun K hK=>?_);go_simp;refine hK _ ?_;clear hK K)|(refine cG (by kernel_rfl) ⟨_,_,_,?_,fun w' o=>HOF.out w',?_⟩;(focus (intro w;go_simp;done)))));refine aR ?_;(repeat (refine aJ (fun K hK=>?_);go_simp;refine hK _ ?_;clear hK K));refine aN ?_;clear k m;intro w o m k;refine aC rfl ?_;go_wp2;simp only[bG];refine⟨o.alloc _,tW ?_⟩;clear o;clear k m c;intro w m k;have c:=HX.out w m.out.only;unfold aV;refine aC rfl ?_;go_wp2;simp only[bG];refine tW ?_;clear k m c;intro w m k;have c:=HX.out w m.out.only;unfold aV;refine aC rfl ?_;go_wp2;simp only[bG];refine tW ?_;clear k m c;intro w m k;have c:=HX.out w m.out.only;unfold aV)|((with_reducible refine lE (fun w o g k K hK=>⟨rfl,?_⟩));simp[results,Tryz.results221,go_sem];refine hK _ ?_;exact⟨rfl,⟨o.got HSB.out (by simp),HF.out.kept o (by simp)⟩,o.weak (by simp)⟩)|((with_reducible refine lN ?_ ?_ (fun w o g=>?_));(. rfl);(. rfl);exact⟨rfl,⟨o.got HSB.out (by simp),HF.out.kept o (by simp)⟩,o.weak (by simp)⟩))
 subst hoe;rw[if_pos rfl] at HR;go_wp2_with (first|((with_reducible first|refine cU ?_|refine wU ?_);clear k m c;intro w m k;have c:=HX.out w m.out.only)|((with_reducible refine rA (id:=1) [0,1,2,3,4,5,6,7,8,9,10,11,12,13] [14] 15 [16,17] (by kernel_rfl) (by kernel_rfl) ?_);simp only[pick,map_cons,map_nil,getD_cons_succ,getD_cons_zero];(repeat (first|(refine aO (fun K hK=>?_);go_simp;refine hK _ ?_;clear hK K)|(refine cG (by kernel_rfl) ⟨_,_,_,?_,fun w' o=>HOF.out w',?_⟩;(focus (intro w;go_simp;done)))));refine aR ?_;(repeat (refine aJ (fun K hK=>?_);go_simp;refine hK _ ?_;clear hK K));refine aN ?_;clear k m;intro w o m k;refine aC rfl ?_;go_wp2;simp only[bG];refine⟨o.alloc _,tW ?_⟩;clear o;clear k m c;intro w m k;have c:=HX.out w m.out.only;unfold aV;refine aC rfl ?_;go_wp2;simp only[bG];refine tW ?_;clear k m c;intro w m k;have c:=HX.out w m.out.only;unfold aV;refine aC rfl ?_;go_wp2;simp only[bG];refine tW ?_;clear k m c;intro w m k;have c:=HX.out w m.out.only;unfold aV)|((with_reducible refine rG (id:=3) [0,1,2,3,4] [5] (by kernel_rfl) (by kernel_rfl) ?_);simp only[pick,map_cons,map_nil,getD_cons_succ,getD_cons_zero];(repeat' (first|go_big_quiet_step (fail)|(refine wpQuiet_step (fun K hK=>?_);go_simp;(first|(refine hK _ ?_;clear hK K)|(split<;>(refine hK _ ?_;clear hK K))))));all_goals (refine wpQuiet_nil ?_;clear k m c;intro w m k;have c:=HX.out w m.out.only)))
 obtain⟨b8,e8,g8,f8,n8⟩:=m.box0 rfl;rw[<-e8];have g0w:=gB (w:=w) (b:=b0);have hsw:=gB (w:=w) (b:=pb);have n80:b8≠b0:=n8 ⟨b0,_,_,_⟩ (.tail _ (.head _));have HAD:=hid (pFAdd (HF.out.kept m.out.only (by simp)) ⟨sm1,sm2,sm3,sm4⟩);generalize GV s.fl ⟨sm1,sm2,sm3,sm4⟩=fa at HAD HR;obtain⟨fl2,fe⟩:=fa;simp only[vX] at HAD;dsimp only at HAD HR;refine HAD.out.mono ?_;rintro e w6 ⟨rfl,hf6,ho6⟩;have O6:=hid ((m.out.only.weak (S':=[pb,pf]) (by simp)).trans ho6 (by simp));have G8:=hid (ho6.got g8 (by simp;omega));have G0:=hid (ho6.got g0w (by simp;omega));have HS6:=hid (ho6.got hsw (by simp;omega));have HF6:=hid hf6;clear m k c g8 g0w hsw hf6 ho6 HAD e8 n8 HOF HX;generalize uX ⟨q1,q2,q3,q4,q5,q6,q7,q8,q9,q10,q11,q12,q13⟩ ⟨sm1,sm2,sm3,sm4⟩ (i+1)=oj at HJN HR;obtain⟨⟨t1,t2,t3,t4⟩,je⟩:=oj;dsimp only at HR HJN;have cv1:IntKind.i64.wrap (i+1)=i+1:=by rw[IntKind.wrap_i64];omega
 have cv2:IntKind.u32.wrap (i+1)=i+1:=by rw[IntKind.wrap_u32];omega
 obtain⟨wy,hwy⟩:∃ wy:World,wy=w6:=⟨_,rfl⟩;subst hwy;have m:Mm wy [pb] wy _:=⟨(((Mem.start wy [pb]).ext false G0.out (by simp) (by simp)).ext false G8.out (by simp;omega) (by simp)).ext true HS6.out (by simp;omega) (by simp)⟩;have k:=m.out.k;by_cases hje:je=0
 rotate_left
 focus
  rw[if_neg hje] at HR;have k6:(je != 0)=true:=by simpa using hje
  obtain rfl:=HR.out;go_wp2_with (first|((with_reducible first|refine cU ?_|refine cM (HJN.out _) ?_|refine wU ?_);clear k m;intro w m k)|((with_reducible refine lE (fun w o g k K hK=>⟨rfl,?_⟩));simp[results,Tryz.results221,go_sem];refine hK _ ?_;exact⟨rfl,⟨Has.h w g,HF6.out.kept o (by simp;omega)⟩,O6.out.trans o (by simp)⟩)|((with_reducible refine lN ?_ ?_ (fun w o g=>?_));(. rfl);(. rfl);exact⟨rfl,⟨Has.h w g,HF6.out.kept o (by simp;omega)⟩,O6.out.trans o (by simp)⟩))
 subst hje;rw[if_pos rfl] at HR;obtain rfl:=HR.out;have ob:bits .or .i64 (SS s.hr s.hp) 1=SS true s.hp:=by cases s.hr<;>cases s.hp<;>decide
 clear HR;go_wp2_with ((with_reducible first|refine cU ?_|refine cM (HJN.out _) ?_|refine wU ?_);clear k m;intro w m k)
 have n9b:=(pairwise_cons.1 m.out.nd).1 _ (List.mem_cons_self ..);dsimp only at n9b;have n0b:¬ b0=pb:=by omega
 have GS:=hid (gB (w:=w) (b:=pb));have OW:=hid m.out.only;obtain⟨wx,hwx⟩:∃ wx:World,wx=w:=⟨_,rfl⟩;subst hwx;refine dA [0,1,2,3] [] (OnlyC [pb] wx) (by kernel_rfl) (by kernel_rfl) ?_;simp only[pick,map_cons,map_nil,getD_cons_succ,getD_cons_zero];iterate 4 (refine aJ (fun K hK=>?_);go_simp;refine hK _ ?_;clear hK K)
 refine aN ?_;clear m k n9b;refine Rest.by (X:=Unit) (fun _ a=>((((a.put (some 51) (.pointer (some ⟨pb,0,none⟩))).put (some 52) (.pointer (some ⟨pb,22,none⟩))).put (some 53) (.pointer (some ⟨pb,0,none⟩))).put (some 54) (.pointer (some ⟨pb,9,none⟩)))) (fun _ w'=>w'.heap[pb]? = some (.cells #[.pointer (some ⟨pa,0,none⟩),.pointer (some ⟨pf,0,none⟩),.int .i64 (SS s.hr s.hp),.int .i64 s.rc.bits,.int .i64 s.rc.poll,.int .i64 s.rc.mn,.int .i64 s.rc.mx,.int .i64 s.rc.cnt,.int .i64 s.sent,.int .i64 q1,.int .i64 q2,.int .i64 q3,.int .i64 q4,.int .i64 q5,.int .i64 q6,.int .u32 q7,.int .u32 q8,.int .u32 q9,.int .u64 q10,.int .u64 q11,.int .u64 q12,.int .u64 q13,.int .i64 t1,.int .i64 t2,.int .i64 t3,.int .u32 t4,.int .i64 s.prf.lo,.int .i64 s.prf.hi,.int .i64 s.pat] 145 (0,0))/\Only [pb] wx w') ?_ ?_
 rotate_left
 focus
  have m:=lQ GS.out;have k:=m.out.k;refine aK [4] (by kernel_rfl) (by simp) (.inr (aZ gO)) ?_;simp only[mem_cons,not_mem_nil,or_false,forall_eq];refine aC rfl ?_;go_wp2;simp only[bG];refine aK [5] (by kernel_rfl) (by simp) (.inr (aZ gO)) ?_;simp only[mem_cons,not_mem_nil,or_false,forall_eq];refine aC rfl ?_;go_wp2;simp only[bG];refine aK [6] (by kernel_rfl) (by simp) (.inr (aZ gO)) ?_;simp only[mem_cons,not_mem_nil,or_false,forall_eq];refine aC rfl ?_;go_wp2;simp only[bG];refine aK [7] (by kernel_rfl) (by simp) (.inr (aZ gO)) ?_;simp only[mem_cons,not_mem_nil,or_false,forall_eq];refine aC rfl ?_;go_wp2;simp only[bG];refine aK [8] (by kernel_rfl) (by simp) (.inr (aZ gO)) ?_;simp only[mem_cons,not_mem_nil,or_false,forall_eq];refine aC rfl ?_;go_wp2;simp only[bG];refine aK [9] (by kernel_rfl) (by simp) (.inr (aZ gO)) ?_;simp only[mem_cons,not_mem_nil,or_false,forall_eq];refine aC rfl ?_;go_wp2;simp only[bG];exact dV (by kernel_rfl) (.inr (aZ gO)) ⟨(),by simp[Act.put],gB,gO⟩
 rintro⟨⟩ w7 ⟨hb7,ho7⟩;simp only[Act.put,List.setIfInBounds_toArray,List.set_cons_succ,List.set_cons_zero];have O7:=hid ((O6.out.trans OW.out (by simp)).trans ho7 (by simp));have HF7:=hid ((HF6.out.kept OW.out (by simp;omega)).kept ho7 (by simp;omega));have m:=lQ hb7;have k:=m.out.k;clear hb7 ho7 GS;go_wp2_with (first|((with_reducible first|refine cU ?_|refine wU ?_);clear k m;intro w m k)|((with_reducible refine lE (fun w o g k K hK=>⟨rfl,?_⟩));simp[results,Tryz.results221,go_sem];refine hK _ ?_;exact⟨rfl,⟨Has.h w g,HF7.out.kept o (by simp;omega)⟩,O7.out.trans o (by simp)⟩)|((with_reducible refine lN ?_ ?_ (fun w o g=>?_));(. rfl);(. rfl);exact⟨rfl,⟨Has.h w g,HF7.out.kept o (by simp;omega)⟩,O7.out.trans o (by simp)⟩))
end
section
open Go.RowKit
def iO (s:Sr) (iv:Iv) (raw tol:Int):Sr:=
 if (qC iv (raw-s.sent) tol).2=0 then (if s.hp=true/\FM (lJ s.prf s.pat raw tol)<FM (sM (qC iv (raw-s.sent) tol).1) then s else { s with prf:=sM (qC iv (raw-s.sent) tol).1,pat:=raw,hp:=true }) else s
theorem pProve {w:World} {bc pb pa pf:Nat} {s:Sr} {tol:Int} (ht:w.cell? ⟨bc,1,none⟩=some (.int .i64 tol)) (hlt:bc<w.heap.size) (hB:xM w pb pa pf s) (iv:Iv) (raw:Int) (h0: -9223372036854775808<=raw-s.sent) (h1:raw-s.sent<=9223372036854775807) (hp0: -9223372036854775808<=raw-s.pat) (hp1:raw-s.pat<=9223372036854775807) (hcb:bc≠pb) :
  Calls Tryz.prog 220 #[.pointer (some ⟨bc,0,none⟩),.pointer (some ⟨pb,0,none⟩),dS iv,.int .i64 raw] w fun e w'=>e=.returned (.tuple #[])/\xM w' pb pa pf (iO s iv raw tol)/\Only [pb] w w':=by
 obtain⟨d,hd⟩:∃ d,raw-s.sent=d:=⟨_,rfl⟩;have HSM:Hid (iO s iv raw tol=if (qC iv (raw-s.sent) tol).2=0 then (if s.hp=true/\FM (lJ s.prf s.pat raw tol)<FM (sM (qC iv (raw-s.sent) tol).1) then s else { s with prf:=sM (qC iv (raw-s.sent) tol).1,pat:=raw,hp:=true }) else s):=hid rfl;rw[hd] at HSM;have a1:IntKind.i64.wrap (raw-s.sent)=d:=by rw[IntKind.wrap_i64];omega
 generalize iO s iv raw tol=res at HSM |-;have HTR:=hid (fun w'=>pTrip iv d tol w');generalize qC iv d tol=tr at HTR HSM;obtain⟨x,te⟩:=tr;dsimp only at HTR HSM;have HCL:=hid (fun w'=>pClip x w');generalize sM x=cx at HCL HSM;obtain⟨wo,hwo⟩:∃ wo:World,wo=w:=⟨_,rfl⟩;subst hwo;have HX:=hid (fun (w':World) (o:Only [pb] wo w')=>And.intro ((o.cell hlt (by simpa using hcb)).trans ht) (Nat.lt_of_lt_of_le hlt o.size));have HAG:=hid (fun (w':World) (o:Only [pb] wo w')=>X0 (HX.out w' o).1 (HX.out w' o).2 s.prf s.pat raw hp0 hp1);generalize lJ s.prf s.pat raw tol=ag at HAG HSM;have HWA:=hid (fun w'=>WM ag w');generalize FM ag=wa at HWA HSM;have HWC:=hid (fun w'=>WM cx w');generalize FM cx=wc at HWC HSM;obtain⟨v1,v2⟩:=iv;obtain⟨e1,e2⟩:=x;obtain⟨g1,g2⟩:=cx;obtain⟨o1,o2⟩:=ag;unfold dS at HTR HCL HAG HWA HWC |-;dsimp only at HTR HCL HAG HWA HWC HSM |-;have hB0:=True.intro;unfold xM at hB |-;clear ht hlt hd h0 h1 hp0 hp1;have ob:bits .or .i64 (SS s.hr s.hp) 2=SS s.hr true:=by cases s.hr<;>cases s.hp<;>decide
 by_cases hz:te=0
 rotate_left
 focus
  have q1:(te != 0)=true:=by simpa using hz
  obtain rfl:s=res:=by have:=HSM.out;simpa [hz] using this.symm
  clear HSM hz
 rotate_left
 focus
  subst hz
  cases hhp:s.hp
  focus
   have oa:bits .and .i64 (SS s.hr s.hp) 2=0:=by rw[hhp];cases s.hr<;>decide
   obtain rfl:res={ s with prf:=⟨g1,g2⟩,pat:=raw,hp:=true }:=by have:=HSM.out;simpa [hhp] using this
   clear HSM hhp;dsimp only
  rotate_left
  focus
   have oa:bits .and .i64 (SS s.hr s.hp) 2=2:=by rw[hhp];cases s.hr<;>decide
   by_cases hw:wa<wc
   focus
    have d1:decide (wa<wc)=true:=dF hw;obtain rfl:s=res:=by have:=HSM.out;simpa [hhp,hw] using this.symm
    clear HSM hhp hw
   rotate_left
   focus
    have d1:decide (wa<wc)=false:=bR hw;obtain rfl:res={ s with prf:=⟨g1,g2⟩,pat:=raw,hp:=true }:=by have:=HSM.out;simpa [hhp,hw] using this
    clear HSM hhp hw;dsimp only
   rotate_left
  rotate_left 2
 rotate_left 3
 all_goals
  clear hB0;have m:=lQ hB;have k:=m.out.k;have c:=HX.out wo (Only.refl _ wo);go_enter Tryz.func220,Tryz.ntmps220
  go_wp2_with (first|((with_reducible first|refine cM (HCL.out _) ?_|refine wU ?_);clear k m c;intro w m k;have c:=HX.out w m.out.only)|((with_reducible refine rA (id:=1) [0,1,2,3,4,5,6,7,8,9,10,11,12,13,14] [15] 16 [17,18] (by kernel_rfl) (by kernel_rfl) ?_);simp only[pick,map_cons,map_nil,getD_cons_succ,getD_cons_zero];(repeat (first|(refine aO (fun K hK=>?_);go_simp;refine hK _ ?_;clear hK K)|(refine cG (by kernel_rfl) ⟨_,_,_,?_,fun w' o=>HTR.out w',?_⟩;(focus (intro w;go_simp;done)))));refine aR ?_;(repeat (refine aJ (fun K hK=>?_);go_simp;refine hK _ ?_;clear hK K));refine aN ?_;clear k m;intro w o m k;refine aC rfl ?_;go_wp2;simp only[bG];refine⟨o.alloc _,tW ?_⟩;clear o;clear k m c;intro w m k;have c:=HX.out w m.out.only;unfold aV;refine aC rfl ?_;go_wp2;simp only[bG];refine tW ?_;clear k m c;intro w m k;have c:=HX.out w m.out.only;unfold aV;refine aC rfl ?_;go_wp2;simp only[bG];refine tW ?_;clear k m c;intro w m k;have c:=HX.out w m.out.only;unfold aV)|((with_reducible refine rA (id:=5) [0,1,2,3,4,5,6,7,8,9,10] [] 11 [12] (by kernel_rfl) (by kernel_rfl) ?_);simp only[pick,map_cons,map_nil,getD_cons_succ,getD_cons_zero];(repeat (first|(refine aO (fun K hK=>?_);go_simp;refine hK _ ?_;clear hK K)|(refine cG (by kernel_rfl) ⟨_,_,_,?_,fun w' o=>HAG.out w' (m.out.only.aB o),?_⟩;(focus (intro w;go_simp;done)))));refine aR ?_;(repeat (refine aJ (fun K hK=>?_);go_simp;refine hK _ ?_;clear hK K));refine aN ?_;clear k m;intro w o m k;refine aC rfl ?_;go_wp2;simp only[bG];refine⟨o.alloc _,tW ?_⟩;clear o;clear k m c;intro w m k;have c:=HX.out w m.out.only;unfold aV;refine aC rfl ?_;go_wp2;simp only[bG];refine tW ?_;clear k m c;intro w m k;have c:=HX.out w m.out.only;unfold aV)|((with_reducible refine rG (id:=6) [0,1,2,3,4] [] (by kernel_rfl) (by kernel_rfl) ?_);simp only[pick,map_cons,map_nil,getD_cons_succ,getD_cons_zero];(repeat' (first|go_big_quiet_step (with_reducible first|exact gX (HWA.out _)|exact gX (HWC.out _))|(refine wpQuiet_step (fun K hK=>?_);go_simp;(first|(refine hK _ ?_;clear hK K)|(split<;>(refine hK _ ?_;clear hK K))))));all_goals (refine wpQuiet_nil ?_;clear k m c;intro w m k;have c:=HX.out w m.out.only))|((with_reducible refine lE (fun w o g k K hK=>⟨rfl,?_⟩));simp[results,Tryz.results220,go_sem];refine hK _ ?_;exact⟨rfl,Has.h w g,o⟩)|((with_reducible refine lN ?_ ?_ (fun w o g=>?_));(. rfl);(. rfl);exact⟨rfl,Has.h w g,o⟩))
end
section
open Go.RowKit
theorem oK {α β:Type} {f:α->List β}:∀ {l:List α} {i j:Nat} (hi:i<l.length) (hj:j<l.length),(l.flatMap f).Nodup->i≠j->∀ x∈f l[i],x ∉ f l[j]
 | [],i,_,hi,_,_,_,_,_=>absurd hi (by simp)
 | a::l,0,0,_,_,_,hne,_,_=>absurd rfl hne
 | a::l,0,j+1,_,hj,h,_,x,hx=>fun hm=>by
  rw[flatMap_cons,nodup_append] at h;have hj':j<l.length:=by simpa using hj
  exact h.2.2 x (by simpa using hx) x (mem_flatMap.2 ⟨l[j],getElem_mem hj',by simpa using hm⟩) rfl
 | a::l,i+1,0,hi,_,h,_,x,hx=>fun hm=>by
  rw[flatMap_cons,nodup_append] at h;have hi':i<l.length:=by simpa using hi
  exact h.2.2 x (by simpa using hm) x (mem_flatMap.2 ⟨l[i],getElem_mem hi',by simpa using hx⟩) rfl
 | a::l,i+1,j+1,hi,hj,h,hne,x,hx=>by
  rw[flatMap_cons,nodup_append] at h;have:=oK (f:=f) (l:=l) (i:=i) (j:=j) (by simpa using hi) (by simpa using hj) h.2.1 (by omega) x (by simpa using hx);simpa using this
theorem bP.putS {w w':World} {P:Pl} {c:Cl} {S:List Nat} {s':Sr} (h:bP w P c) (i:Nat) (hi:i<P.ps.length) (ho:Only S w w') (hS:∀ x∈S,x∈[P.ps[i].1,P.ps[i].2.1,P.ps[i].2.2]) (hs:rZ w' P.ps[i] s'):bP w' P { c with srcs:=c.srcs.set i s' }:=by
 have hnd:=h.nd;unfold Pl.all at hnd;simp only[List.nodup_cons,mem_cons,not_or] at hnd;obtain⟨⟨n1,n2,n3,n4⟩,⟨n5,n6,n7⟩,⟨n8,n9⟩,n10,n11⟩:=hnd;have key:∀ b,b ∉ (P.ps.flatMap fun p=>[p.1,p.2.1,p.2.2])->b ∉ S:=fun b hb hm=>hb (mem_flatMap.2 ⟨P.ps[i],getElem_mem hi,hS b hm⟩);refine⟨ho.got h.cl (key _ n4),ho.got h.ck (key _ n7),ho.got h.sv (key _ n9),h.row.kept ho (key _ n10),by simpa using h.len,?_,h.nd,fun b hb=>Nat.lt_of_lt_of_le (h.lt b hb) ho.size⟩;intro j hj hj';by_cases e:i=j
 ·subst e
  simpa using hs
 ·have hjc:j<c.srcs.length:=h.len ▸ hj
  have ap:∀ x∈[P.ps[j].1,P.ps[j].2.1,P.ps[j].2.2],x ∉ S:=fun x hx hm=>oK (f:=fun p:Nat × Nat × Nat=>[p.1,p.2.1,p.2.2]) hj hi n11 (Ne.symm e) x hx (hS x hm);have:=(h.src j hj hjc).kept ho (ap _ (by simp)) (ap _ (by simp)) (ap _ (by simp));simpa [List.getElem_set_ne e] using this
end
section
open Go.RowKit
def xX (s:Sr) (a:As):Sr:={ s with sa:=a,rc:={ s.rc with bits:=bits .or .i64 s.rc.bits 1 } }
def j6 (s:Sr) (i:Int) (p:Np) (iv:Iv) (has:Bool) (raw now prec tol:Int):Hd × Sr:=
 if (jP s.sa p now).1.kind=4 then ((jP s.sa p now).1,{ s with sa:=(jP s.sa p now).2,rc:=JA s.rc })
 else if (jP s.sa p now).1.kind=7 then
  ((jP s.sa p now).1,mE (if has=true then iO (xX s (jP s.sa p now).2) iv raw tol else xX s (jP s.sa p now).2) (i+1) p (jP s.sa p now).1.q prec tol)
 else ((jP s.sa p now).1,{ s with sa:=(jP s.sa p now).2 })
end
end Go.Proofs.YthbgcpfklmlnjaaGreat
