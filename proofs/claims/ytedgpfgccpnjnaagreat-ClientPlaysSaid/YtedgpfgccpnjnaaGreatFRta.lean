/- ClientPlays, walked. Conditions: those named in each theorem. -/
import Derived.Test.YtedgpfgccpnjnaaGreatFRt3
import Derived.Test.YtedgpfgccpnjnaaGreatFRt7
import Derived.Test.YtedgpfgccpnjnaaGreatFRt9
import Derived.Test.YtedgpfgccpnjnaaGreatFRs9
import Derived.Test.YtedgpfgccpnjnaaGreatFRq2
import Derived.Test.YtedgpfgccpnjnaaGreatFJh
import Derived.Deep.MidRow
namespace Go.Proofs.YtedgpfgccpnjnaaGreat
open Go.Lib (hid)
set_option maxRecDepth 100000
set_option maxHeartbeats 16000000
open Go.RowKit Go.Sort
theorem wpList_ld {Pr:Program} {w0 w:World} {S:List Nat} {L:List Blk} {Q:Exit→Act→World→Prop} {ops:Array Oper} {rest:List Oper} {a:Act} [m:Mm w0 S w L] {ty y1:TypeId} {s1:String} {e1:Array Edge} {x:Operand} {tL:Tmp} {b:Nat} {cs:List Value} {t:TypeId} {d:TypeDesc} [h:Has L b cs t]
  (hx:a.eval x=.pointer (some ⟨b,0,none⟩)) (hu:Pr.underlying ty=some d) (hd:d.isRow=true) (hi:(Pr.info? ty).map (·.size)=some cs.length)
  (hk:wpList Pr ops Q rest (a.put (some tL) (.agg cs.toArray)) w):wpList Pr ops Q (⟨some tL,.load ty x,y1,s1,e1,none⟩::rest) a w:=
 wpList_load_mid rfl ty x rfl b 0 hx cs d (fun j v hv=>by rw[Nat.zero_add,cell_got gB j,List.getElem?_toArray];exact hv) hu hd hi hk
theorem pActA {wz w:World} {P Q:Pl} {M:List Nat} {c:Cl} {bn:Nat} {ns:List Int} (h:TwS wz w P Q M c c bn ns) (hR:ClR c) (raw:Int) (hraw: -4611686018427387904≤raw∧raw≤4611686018427387904) (x:Ax) (hx:AxOk x) :
  Calls Tryz.prog 10 #[.pointer (some ⟨P.bc,0,none⟩),.pointer (some ⟨Q.bc,0,none⟩),.agg #[.int .i64 x.kind,.int .i64 x.server,.int .i64 x.later,.int .u64 x.nonce,.int .i64 x.head.leap,.int .i64 x.head.ver,.int .i64 x.head.mode,.int .i64 x.head.strat,.int .i64 x.head.poll,.int .i64 x.head.prec,.int .u32 x.head.rdel,.int .u32 x.head.rdsp,.int .u32 x.head.rid,.int .u64 x.head.ref,.int .u64 x.head.org,.int .u64 x.head.rcv,.int .u64 x.head.xmt,.int .i64 x.iv.lo,.int .i64 x.iv.hi,.bool x.has,.bool x.good],.int .i64 raw,.slice (some ⟨bn,0,none⟩) 12 12] w fun e w'=>ActR wz w P Q M bn e w':=by
 obtain⟨x1,x2,x3,x4,⟨e0,e1,e2,e3,e4,e5,e6,e7,e8,e9,e10,e11,e12⟩,⟨i1,i2⟩,xh,xg⟩:=x;obtain⟨-,hx4,hpo⟩:=hx;dsimp only at hx4 hpo ⊢;by_cases k0:x1=0
 ·subst k0;exact pAct0 h hR raw hraw x2 x3 x4 e0 e1 e2 e3 e4 e5 e6 e7 e8 e9 e10 e11 e12 i1 i2 xh xg hx4
 by_cases k1:x1=1
 ·subst k1;exact pAct1 h hR raw hraw x2 x3 x4 e0 e1 e2 e3 e4 e5 e6 e7 e8 e9 e10 e11 e12 i1 i2 xh xg hpo
 by_cases k2:x1=2
 ·subst k2;exact pAct2 h hR raw hraw x2 x3 x4 e0 e1 e2 e3 e4 e5 e6 e7 e8 e9 e10 e11 e12 i1 i2 xh xg
 exact pActN h hR raw hraw x2 x3 x4 e0 e1 e2 e3 e4 e5 e6 e7 e8 e9 e10 e11 e12 i1 i2 xh xg x1 (by simpa using k0) (by simpa using k1) (by simpa using k2)
set_option synthInstance.maxSize 2000 in
set_option synthInstance.maxHeartbeats 400000 in
theorem pPlays {w:World} {p:Option Addr} {n cap:Nat} {l:List Ax} (cf:Cf) (from_:Qd) (hv:VRow axC 21 w p n cap l) (hG:∀ x∈l,AxOk x) :
  Calls Tryz.prog 3 #[cfV cf,qdV from_,.slice p n cap] w fun e w'=>e=.returned (.bool true)∧Only [] w w':=by
 have HV:=hid hv;have HG:=hid hG;have HSH:=hid (fun w' (o:Only [] w w')=>pShort (hv.kept o));have HAW:=hid (fun w'=>pAwake w');have hln:=hv.len;subst hln;clear hv hG;obtain⟨wo,hwo⟩:∃ wo:World,wo=w:=⟨_,rfl⟩;subst hwo;by_cases hsh:shortC l=true
 rotate_left
 ·as_aux_lemma =>
   have hs2:shortC l=false:=by simpa using hsh
   rw[hs2] at HSH;clear hsh hs2;obtain⟨sr,tl,pr,kp,⟨sk,si,sm,sf,sl⟩,ra,mn,mx⟩:=cf;obtain⟨t1,t2,t3,t4⟩:=from_;unfold cfV qdV;dsimp only;have m:=mm0 wo [];have k:=m.out.k;go_enter Tryz.func3,Tryz.ntmps3
   go_wp2_with (first|((with_reducible first|refine cM (HSH.out _ gO) ?_|refine cM (HAW.out _) ?_|refine cU ?_|refine wU ?_);clear k m;intro w m k)|((with_reducible refine lE (fun w o g k K hK=>⟨rfl,?_⟩));simp[results,Tryz.results3,go_sem];refine hK _ ?_;exact⟨rfl,o⟩))
 rw[hsh] at HSH;obtain⟨h60,hlate⟩:=short_at hsh;clear hsh;have HLT:=hid hlate;clear hlate;have HC1:=hid (fun w'=>pCCheck cf w');have HC2:=hid (fun w'=>qCCheck cf w');by_cases hnil:ccheck cf≠0∨(isT from_.t1 && isT from_.t2)=false
 ·as_aux_lemma =>
   have HN1:Hid (∀ w',Calls Tryz.prog 8 #[cfV cf,.int .i64 from_.t1,.int .i64 from_.t2] w' fun e w''=>e=.returned (.pointer none)∧Only [] w' w''):=hid (fun w'=>by
    by_cases hc:ccheck cf=0
    ·have ht:=hnil.resolve_left (fun h=>h hc)
     obtain⟨c1,c2,c3,c4⟩:=ccheck_ok hc;refine (pClNew cf from_.t1 from_.t2 hc c4 c1 c2 w').mono ?_;rintro e w'' ⟨hN,ho⟩;rcases hN with ⟨_,h⟩|⟨h,_⟩
     ·exact⟨h,ho⟩
     ·rw[ht] at h;cases h
    ·exact pNewNo cf from_.t1 from_.t2 hc w')
   have HN2:Hid (∀ w',Calls Tryz.prog 9 #[cfV cf,.int .i64 from_.t1,.int .i64 from_.t2] w' fun e w''=>e=.returned (.pointer none)∧Only [] w' w''):=hid (fun w'=>by
    by_cases hc:ccheck cf=0
    ·have ht:=hnil.resolve_left (fun h=>h hc)
     obtain⟨c1,c2,c3,c4⟩:=ccheck_ok hc;refine (qClNew cf from_.t1 from_.t2 hc c4 c1 c2 w').mono ?_;rintro e w'' ⟨hN,ho⟩;rcases hN with ⟨_,h⟩|⟨h,_⟩
     ·exact⟨h,ho⟩
     ·rw[ht] at h;cases h
    ·exact qClNewNo cf from_.t1 from_.t2 hc w')
   clear hnil;generalize ccheck cf=er at HC1 HC2;obtain⟨sr,tl,pr,kp,⟨sk,si,sm,sf,sl⟩,ra,mn,mx⟩:=cf;obtain⟨t1,t2,t3,t4⟩:=from_;unfold cfV at HN1 HN2 HC1 HC2 ⊢;unfold qdV;dsimp only at HN1 HN2 HC1 HC2 ⊢;have m:=mm0 wo [];have k:=m.out.k;go_enter Tryz.func3,Tryz.ntmps3
   go_wp2_with (first|((with_reducible first|refine cM (HSH.out _ gO) ?_|refine cM (HAW.out _) ?_|refine cM (HC1.out _) ?_|refine cM (HC2.out _) ?_|refine cM (HN1.out _) ?_|refine cM (HN2.out _) ?_|refine cU ?_|refine wU ?_);clear k m;intro w m k)|((with_reducible refine rG (id:=3) [0,1,2,3,4] [] (by kernel_rfl) (by kernel_rfl) ?_);simp only[pick,List.map_cons,List.map_nil,List.getD_cons_succ,List.getD_cons_zero];(repeat' (first|go_big_quiet_step (with_reducible first|exact gX (HC1.out _)|exact gX (HC2.out _)|exact gX (HN1.out _)|exact gX (HN2.out _))|(refine wpQuiet_step (fun K hK=>?_);go_simp;(first|(refine hK _ ?_;clear hK K)|(split<;>(refine hK _ ?_;clear hK K))))));all_goals (refine wpQuiet_nil ?_;clear k m;intro w m k))|((with_reducible refine rG (id:=5) [0,1,2,3,4,5,6,7,8,9,10,11,12,13] [] (by kernel_rfl) (by kernel_rfl) ?_);simp only[pick,List.map_cons,List.map_nil,List.getD_cons_succ,List.getD_cons_zero];(repeat' (first|go_big_quiet_step (with_reducible first|exact gX (HC1.out _)|exact gX (HC2.out _)|exact gX (HN1.out _)|exact gX (HN2.out _))|(refine wpQuiet_step (fun K hK=>?_);go_simp;(first|(refine hK _ ?_;clear hK K)|(split<;>(refine hK _ ?_;clear hK K))))));all_goals (refine wpQuiet_nil ?_;clear k m;intro w m k))|((with_reducible refine lE (fun w o g k K hK=>⟨rfl,?_⟩));simp[results,Tryz.results3,go_sem];refine hK _ ?_;exact⟨rfl,o⟩))
 have hc:ccheck cf=0:=Decidable.byContradiction fun h=>hnil (.inl h)
 have htt:(isT from_.t1 && isT from_.t2)=true:=by
  cases h:(isT from_.t1 && isT from_.t2)
  ·exact absurd (.inr h) hnil
  ·rfl
 have ht1:isT from_.t1=true:=by cases h:isT from_.t1<;>simp_all
 have ht2:isT from_.t2=true:=by cases h:isT from_.t2<;>simp_all
 have hbt:=wth_iff.1 (show wth from_.t1 (-4503599627370496) 4503599627370496=true from ht1);obtain⟨c1,c2,c3,c4⟩:=ccheck_ok hc;have HNX:=hid (fun w'=>pClNew cf from_.t1 from_.t2 hc c4 c1 c2 w');have HNY:=hid (fun w'=>qClNew cf from_.t1 from_.t2 hc c4 c1 c2 w');have HR0:=hid (ClR.new hc ht1 ht2);rw[hc] at HC1 HC2;unfold NewR at HNX;unfold QClNewR at HNY;rw[htt] at HNX HNY;generalize cl0 cf from_.t1 from_.t2=c0 at HNX HNY HR0;clear hc htt ht1 ht2 c1 c2 c3 c4 hnil;obtain⟨sr,tl,pr,kp,⟨sk,si,sm,sf,sl⟩,ra,mn,mx⟩:=cf;obtain⟨t1,t2,t3,t4⟩:=from_;unfold cfV at HNX HNY HC1 HC2 ⊢;unfold qdV;dsimp only at HNX HNY HC1 HC2 hbt ⊢;have m:=mm0 wo [];have k:=m.out.k;go_enter Tryz.func3,Tryz.ntmps3
 go_wp2_with (first|((with_reducible first|refine cM (HSH.out _ gO) ?_|refine cU ?_|refine wU ?_);clear k m;intro w m k)|((with_reducible refine rG (id:=3) [0,1,2,3,4] [] (by kernel_rfl) (by kernel_rfl) ?_);simp only[pick,List.map_cons,List.map_nil,List.getD_cons_succ,List.getD_cons_zero];(repeat' (first|go_big_quiet_step (with_reducible first|exact gX (HC1.out _)|exact gX (HC2.out _))|(refine wpQuiet_step (fun K hK=>?_);go_simp;(first|(refine hK _ ?_;clear hK K)|(split<;>(refine hK _ ?_;clear hK K))))));all_goals (refine wpQuiet_nil ?_;clear k m;intro w m k)))
 have OM:=hid m.out.only;have HB0:=hid (gB (w:=w) (b:=wo.heap.size));have HB1:=hid (gB (w:=w) (b:=wo.heap.size+1));refine rY (id:=5) [0,1,2,3,4,6,7,8,9,10] [] [] 4 (by kernel_rfl) (by kernel_rfl) ?_;simp only[pick,List.map_cons,List.map_nil,List.getD_cons_succ,List.getD_cons_zero]
 (repeat (first|(refine wpCalmG_step (fun K hK=>?_);go_simp;refine hK _ ?_;clear hK K)));refine wpCalmG_nil ?_;(repeat (refine wpCalm_step (fun K hK=>?_);go_simp;refine hK _ ?_;clear hK K));refine wpCalm_nil ?_
 intro w0 o2 _ _;have OS:=hid o2;clear o2;refine yN [5] (by kernel_rfl) ?_;simp only[List.mem_cons,List.not_mem_nil,or_false,forall_eq];refine wpOp_one rfl ?_;go_wp2_with fail
 refine (HNX.out _).mono ?_;rintro e w2 ⟨hN,ho2⟩
 obtain⟨P,rfl,hcl,hge⟩:∃ P:Pl,e=.returned (.pointer (some ⟨P.bc,0,none⟩))∧ClAt w2 P c0∧∀ b∈P.all,w0.heap.size≤b:=by
  rcases hN with ⟨h,_⟩|⟨_,h⟩
  ·exact absurd h (by decide)
  ·exact h
 have OX:=hid ((OM.out.nil_trans OS.out).nil_trans ho2);have HGP:=hid (show ∀ b∈P.all,wo.heap.size≤b from fun b hb=>by have:=hge b hb;have:=(OM.out.nil_trans OS.out).size;omega);go_wp2;simp only[nrm];refine⟨.inr (OS.out.nil_trans ho2),fun w3 o3=>?_⟩;have OS3:=hid ((OS.out.nil_trans ho2).nil_trans o3);have HX3:=hid (hcl.kept o3);clear hN hcl hge ho2 o3;refine yN [11] (by kernel_rfl) ?_;simp only[List.mem_cons,List.not_mem_nil,or_false,forall_eq];refine wpOp_one rfl ?_;go_wp2_with fail
 refine (HNY.out _).mono ?_;rintro e w4 ⟨hN,ho4⟩
 obtain⟨Q,rfl,hcq,hgq⟩:∃ Q:Pl,e=.returned (.pointer (some ⟨Q.bc,0,none⟩))∧(∀ M,(∀ b∈Q.all,b∈M)→(∀ x∈M,x<w4.heap.size)→QClAt M w4 Q c0)∧∀ b∈Q.all,w3.heap.size≤b∧b<w4.heap.size:=by
  rcases hN with ⟨h,_⟩|⟨_,h⟩
  ·exact absurd h (by decide)
  ·exact h
 have hql:∀ b∈Q.all,b<w4.heap.size:=fun b hb=>(hgq b hb).2;have HY4:=hid (hcq (P.all ++ Q.all) (fun b hb=>List.mem_append_right _ hb) (fun x hx=>(List.mem_append.1 hx).elim (fun h=>Nat.lt_of_lt_of_le (HX3.out.lt x h) ho4.size) (hql x)));have HPQ:=hid (show ∀ b∈Q.all,b ∉ P.all from fun b hb hm=>by have:=(hgq b hb).1;have:=HX3.out.lt b hm;omega);have HGQ:=hid (show ∀ b∈Q.all,wo.heap.size≤b from fun b hb=>by have:=(hgq b hb).1;have:=(OM.out.nil_trans OS3.out).size;omega);go_wp2;simp only[nrm];refine⟨.inr (OS3.out.nil_trans ho4),fun w5 o5=>?_⟩;have OS5:=hid ((OS3.out.nil_trans ho4).nil_trans o5);have HX5:=hid ((HX3.out.kept ho4).kept o5);have HY5:=hid (HY4.out.kept o5);clear hN hcq hgq ho4 o5 hql HX3 HY4 OS3;refine yN [12] (by kernel_rfl) ?_;simp only[List.mem_cons,List.not_mem_nil,or_false,forall_eq];refine wpOp_one rfl ?_;go_wp2;simp only[nrm];refine⟨.inr OS5.out,fun w6 o6=>?_⟩;replace HX5:=hid (HX5.out.kept o6);replace HY5:=hid (HY5.out.kept o6);replace OS5:=hid (OS5.out.nil_trans o6);clear o6;refine yN [13] (by kernel_rfl) ?_;simp only[List.mem_cons,List.not_mem_nil,or_false,forall_eq];refine wpOp_one rfl ?_;go_wp2;simp only[nrm];refine⟨.inr OS5.out,fun w7 o6=>?_⟩;replace HX5:=hid (HX5.out.kept o6);replace HY5:=hid (HY5.out.kept o6);replace OS5:=hid (OS5.out.nil_trans o6);clear o6;unfold wpY;have hb1:=OS5.out.got HB1.out (by simp);have O7:=hid (OM.out.nil_trans OS5.out);clear k m HB0 HB1 OS OS5 OM OX HNX HNY HC1 HC2 HSH;obtain⟨bc0,hbc0⟩:∃ b,P.bc=b:=⟨_,rfl⟩;obtain⟨qc0,hqc0⟩:∃ b,Q.bc=b:=⟨_,rfl⟩;rw[hbc0,hqc0];have hmk:=run_make12;have m:=mmR hb1;have k:=m.out.k;clear hb1;go_wp2_with ((with_reducible first|refine cU ?_|refine wU ?_);clear k m;intro w m k)
 clear hmk;generalize hbn:w7.heap.size=bn at m k ⊢;have hbx:=gB (w:=w) (b:=bn);have h8:=m.out.only.size;have hlt8:=got_lt hbx;have HT0:Hid (TwS wo w P Q (bn::(P.all ++ Q.all)) c0 c0 bn (List.replicate 12 0)):=hid ⟨HX5.out.kept m.out.only,HY5.out.offM m.out.only (by simp) (by simp) (fun x hx=>(List.mem_cons.1 hx).elim (fun e=>.inr (by omega)) .inl) (fun x hx=>List.mem_cons_of_mem _ hx) (fun x hx=>(List.mem_cons.1 hx).elim (fun e=>by omega) (fun h=>Nat.lt_of_lt_of_le (HY5.out.ml x h) h8)),fun b hb=>List.mem_cons_of_mem _ (List.mem_append_left _ hb),HPQ.out,fun b hb=>(List.mem_cons.1 hb).elim (fun e=>by have:=O7.out.size;omega) (fun h=>(List.mem_append.1 h).elim (HGP.out b) (HGQ.out b)),List.mem_cons_self ..,fun hm=>by have:=HX5.out.lt bn hm;omega,fun hm=>by have:=HY5.out.lt bn hm;omega,hbx,rfl,fun x hx=>by rw[(List.mem_replicate.1 hx).2];omega,O7.out.nil_trans m.out.only⟩;clear m k hbx HX5 HY5 h8 hlt8 O7 HGP HGQ HPQ;go_loopw [9,54] (fun vr vi wr=>∃ (j:Nat) (raw:Int) (P Q:Pl) (M:List Nat) (c:Cl) (ns:List Int),j≤l.length∧vr=.int .i64 raw∧vi=.int .i64 j∧P.bc=bc0∧Q.bc=qc0∧(-4503599627370496-1000*(j:Int)≤raw∧raw≤4503599627370496+(j:Int)*70368744177664)∧ClR c∧TwS wo wr P Q M c c bn ns) (fun _ vi _=>l.length-(intOf vi).toNat)
 case atStart=>exact⟨0,t1,P,Q,_,c0,_,Nat.zero_le _,rfl,rfl,hbc0,hqc0,by omega,HR0.out,HT0.out⟩
 case round =>
  obtain⟨j,raw,P2,Q2,M,c,ns,hk,rfl,rfl,hP,hQ,hraw,hR,hT⟩:=hrel;have HT:=hid hT;have HRR:=hid hR;clear hT hR;by_cases hlt:j<l.length
  rotate_left
  ·as_aux_lemma =>
    obtain rfl:j=l.length:=by omega
    have hge:¬ (l.length:Int)<(l.length:Int):=by omega
    have m:=mm0 wr [];have k:=m.out.k;go_wp2_with (first|((with_reducible first|refine cM (HAW.out _) ?_|refine cU ?_|refine wU ?_);clear k m;intro w m k)|((with_reducible refine lE (fun w o g k K hK=>⟨rfl,?_⟩));simp[results,Tryz.results3,go_sem];refine hK _ ?_;exact⟨rfl,HT.out.only.nil_trans o⟩))
  ·as_aux_lemma =>
    have hlt2:(j:Int)<(l.length:Int):=by omega
    obtain⟨b,off,rfl,hb,hrg⟩:=HV.out.rng hlt;have hla:=HLT.out j hlt;have hax:=HG.out l[j] (List.getElem_mem hlt);obtain⟨rw',hrw⟩:∃ r,raw+l[j].later=r:=⟨_,rfl⟩;have hb1: -4503599627370496-1000*((j+1:Nat):Int)≤rw'∧rw'≤4503599627370496+((j+1:Nat):Int)*70368744177664:=by omega
    have hb2: -4611686018427387904≤rw'∧rw'≤4611686018427387904:=by omega
    have hwr:IntKind.i64.wrap (raw+l[j].later)=rw':=by rw[hrw,IntKind.wrap_i64];omega
    have HACT:=hid (fun w' (o:Only [] wr w')=>pActA (HT.out.grow o) HRR.out rw' hb2 l[j] hax);rw[hP,hQ] at HACT;generalize l[j]=x at hrg hwr HACT;obtain⟨x1,x2,x3,x4,⟨e0,e1,e2,e3,e4,e5,e6,e7,e8,e9,e10,e11,e12⟩,⟨i1,i2⟩,xh,xg⟩:=x;unfold axC at hrg;dsimp only at hrg hwr HACT;have HX:=hid (fun w' (o:Only [] wr w')=>hrg w' (HT.out.only.nil_trans o));have HK:=hid hlt;have HB1:=hid hb1;clear hrg hax hb hla hrw hraw hk hlt hb1;have m:=mm0 wr [];have k:=m.out.k;go_wp2_with (first|((with_reducible refine wpList_wide (b:=b) (o:=off+j*21) (cs:=[.int .i64 x1,.int .i64 x2,.int .i64 x3,.int .u64 x4,.int .i64 e0,.int .i64 e1,.int .i64 e2,.int .i64 e3,.int .i64 e4,.int .i64 e5,.int .u32 e6,.int .u32 e7,.int .u32 e8,.int .u64 e9,.int .u64 e10,.int .u64 e11,.int .u64 e12,.int .i64 i1,.int .i64 i2,.bool xh,.bool xg]) ?_ (HX.out _ gO) Tryz.underlying45 ?_ ?_ ?_ ?_ ?_ ?_ ?_);(· simp[Act.eval]);(· rfl);(· kernel_rfl);(· kernel_rfl);(· rfl);(· intro p;simp[Act.eval,Act.put]);(· intro p;simp[Act.eval,Act.put]);(clear k m;intro w g hg m;have k:=m.out.k))|((with_reducible refine wpList_ld (ty:=45) (b:=g) ?_ Tryz.underlying45 ?_ ?_ ?_);(· simp[Act.eval]);(· rfl);(· kernel_rfl))|((with_reducible first|refine cU ?_|refine wU ?_);clear k m;intro w m k))
    refine (HACT.out _ m.out.only).mono ?_;rintro e w2 ⟨rfl,⟨P3,Q3,M3,c3,ns3,hP3,hQ3,hR3,hT3⟩,ho2⟩;have hg2:=ho2.got (gB (w:=w) (b:=g)) (fun hm=>by have:=HT.out.ml g hm;omega);have HT3:=hid hT3;have HR3:=hid hR3;have hP4:P3.bc=bc0:=hP3.trans hP;have hQ4:Q3.bc=qc0:=hQ3.trans hQ;have HLK:=hid (fun w' (o:Only [] w2 w')=>pLook (hT3.x.kept o) (hT3.y.kept o) hR3 hT3.pm hT3.pq x2 rw' hb2);rw[hP4,hQ4] at HLK;have HPQ:=hid (And.intro hP4 hQ4);clear k m hT3 hR3 ho2 HACT HT HRR hP3 hQ3 hP4 hQ4 hP hQ HX
    as_aux_lemma =>
     have m:=mmR hg2;have k:=m.out.k;clear hg2;go_wp2_with ((with_reducible first|refine cU ?_|refine wU ?_);clear k m;intro w m k)
     refine (HLK.out _ m.out.only).mono ?_;rintro e w3 ⟨rfl,⟨hx3,-⟩,ho3⟩;have T3:=hid ((HT3.out.grow m.out.only).opX (ho3.weak (fun b hb=>fs_all hb)) hx3 (fun b hb=>.inl hb));clear k m HLK hx3 ho3 HT3
     as_aux_lemma =>
      have m:=mm0 w3 [];have k:=m.out.k;go_wp2_with (first|((with_reducible first|refine cU ?_|refine wU ?_);clear k m;intro w m k)|(go_roundw;(case rel=>exact⟨j+1,rw',P3,Q3,_,c3,ns3,HK.out,rfl,by go_num,HPQ.out.1,HPQ.out.2,HB1.out,HR3.out,T3.out.grow gO⟩);(case measure=>first|(have:=HK.out;simp[intOf];done)|(have:=HK.out;simp[intOf];omega))))
end Go.Proofs.YtedgpfgccpnjnaaGreat
