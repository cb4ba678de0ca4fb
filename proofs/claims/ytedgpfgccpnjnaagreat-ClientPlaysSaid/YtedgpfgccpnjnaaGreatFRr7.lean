/- Rr7 Rr8 Rr9 -/
import Derived.Test.YtedgpfgccpnjnaaGreatFRp1
import Derived.Test.YtedgpfgccpnjnaaGreatFRr4
namespace Go.Proofs.YtedgpfgccpnjnaaGreat
section
open Go.Lib (hid)
set_option maxRecDepth 100000
set_option maxHeartbeats 8000000
open Go.RowKit Go.Sort
def QFlAt (M:List Nat) (w:World) (b:Nat) (f:Fl):Prop:=∃ (p:Option Addr) (cap:Nat) (an:Bool) (fr:Int),w.heap[b]? = some (.cells #[.int .i64 f.tol,.slice p f.l.length cap,.bool an,.int .i64 fr] 135 (0,0))∧VRow smC 4 w p f.l.length cap f.l∧∀ a,p=some a→a.block ∉ M∧a.block<w.heap.size
theorem QFlAt.kept {M S:List Nat} {w w':World} {b:Nat} {f:Fl} (h:QFlAt M w b f) (ho:Only S w w') (hb:b ∉ S) (hS:∀ x∈S,x∈M∨w.heap.size≤x):QFlAt M w' b f:=by
 obtain⟨p,cap,an,fr,h1,h2,h3⟩:=h;exact⟨p,cap,an,fr,ho.got h1 hb,h2.kept' ho (fun a ha hm=>(hS _ hm).elim (h3 a ha).1 (fun h=>by have:=(h3 a ha).2;omega)),fun a ha=>⟨(h3 a ha).1,Nat.lt_of_lt_of_le (h3 a ha).2 ho.size⟩⟩
theorem QFlAt.more {M M':List Nat} {w:World} {b:Nat} {f:Fl} (h:QFlAt M w b f) (hM:∀ x∈M',x∈M∨w.heap.size≤x):QFlAt M' w b f:=by
 obtain⟨p,cap,an,fr,h1,h2,h3⟩:=h;exact⟨p,cap,an,fr,h1,h2,fun a ha=>⟨fun hm=>(hM _ hm).elim (h3 a ha).1 (fun h=>by have:=(h3 a ha).2;omega),(h3 a ha).2⟩⟩
theorem QFlAt.lt {M:List Nat} {w:World} {b:Nat} {f:Fl} (h:QFlAt M w b f):b<w.heap.size:=by
 obtain⟨p,cap,an,fr,h1,h2,h3⟩:=h;exact got_lt h1
theorem row_lit {α:Type} {enc:α→List Value} {e:TypeId} {s:Nat} {w:World} {cs:List Value} {l:List α} (hs:∀ x,(enc x).length=s) (hc:cs=l.flatMap enc) (hm:l.length≤maxLen):RowAt enc e s (w.alloc (.cells cs.toArray e)) w.heap.size l.length l:=
 ⟨cs.toArray,by show (w.heap.push _)[w.heap.size]? = _;simp,by rw[hc];simp[flat_length enc s hs l],Nat.le_refl _,hm,by rw[hc,List.toList_toArray,←flat_length enc s hs l,List.take_length]⟩
theorem VRow.at1 {w:World} {b off n cap:Nat} {l:List Smp} (hv:VRow smC 4 w (some ⟨b,off,none⟩) n cap l) {k:Nat} (hk:k<l.length):b<w.heap.size∧SmF w b (off+k*4) l[k]:=by
 obtain⟨b',off',hp,hb,h⟩:=hv.atS (by omega);simp only[Option.some.injEq,Addr.mk.injEq,and_true] at hp;obtain⟨rfl,rfl⟩:=hp;exact h k hk w (Only.refl _ w)
theorem qFNew (tol:Int) (h0:0≤tol) (h1:tol≤500000) (w:World) :
  Calls Tryz.prog 29 #[.int .i64 tol] w fun e w'=>(∃ b,e=.returned (.pointer (some ⟨b,0,none⟩))∧w.heap.size≤b∧∀ M,QFlAt M w' b ⟨tol,[]⟩)∧Only [] w w':=by
 have d0:decide (tol<0)=false:=decide_eq_false (by omega);have d1:decide (500000<tol)=false:=decide_eq_false (by omega);obtain⟨wo,hwo⟩:∃ wo:World,wo=w:=⟨_,rfl⟩;subst hwo;have m:=mm0 wo [];have k:=m.out.k;go_enter Tryz.func29,Tryz.ntmps29
 go_wp2_with (first|((with_reducible refine wU ?_);clear k m;intro w m k)|((with_reducible refine lE (fun w o g k K hK=>⟨rfl,?_⟩));simp[results,Tryz.results29,go_sem];refine hK _ ?_;exact⟨⟨_,rfl,by omega,fun M=>⟨none,0,false,0,Has.h w g,vrow_nil _,by simp⟩⟩,o⟩))
theorem qFAdd {M:List Nat} {w:World} {b:Nat} {f:Fl} (hf:QFlAt M w b f) (hb:b∈M) (hM:∀ x∈M,x<w.heap.size) (h8:f.l.length≤8) (s:Smp) :
  Calls Tryz.prog 64 #[.pointer (some ⟨b,0,none⟩),smV s] w fun e w'=>e=.returned (.int .i64 (fAdd f s).2)∧QFlAt M w' b (fAdd f s).1∧Only [b] w w':=by
 obtain⟨p,cap,an,fr,hF,hV,hp⟩:=hf;have HK:=hid (fun w'=>qSChk s w');have hor:=schk_or s;have HQ:=hid (fun w' (o:Only [b] w w') h=>show QFlAt M w' b f from ⟨p,cap,an,fr,h,hV.kept' o (fun a ha hm=>(hp a ha).1 (by rw[List.mem_singleton.1 hm];exact hb)),fun a ha=>⟨(hp a ha).1,Nat.lt_of_lt_of_le (hp a ha).2 o.size⟩⟩);obtain⟨res,HE⟩:∃ zz,Hid (fAdd f s=zz):=⟨_,hid rfl⟩;rw[HE.out];unfold fAdd at HE;obtain⟨tol,l⟩:=f;obtain⟨s1,s2,s3,s4⟩:=s;dsimp only at hF hV h8 HE HQ;obtain⟨nl,hnl⟩:∃ n,l.length=n:=⟨_,rfl⟩;have hnb:nl≤8:=by omega
 rw[hnl] at hF hV;simp only[hnl] at HQ;generalize schk ⟨s1,s2,s3,s4⟩=er at HK hor HE;unfold smV at HK ⊢;dsimp only at HK ⊢;obtain⟨wo,hwo⟩:∃ wo:World,wo=w:=⟨_,rfl⟩;subst hwo;rcases hor with rfl|rfl
 focus
  rw[if_pos rfl] at HE;rcases List.eq_nil_or_concat l with h|⟨l2,x,h⟩
  focus
   obtain⟨HX,-⟩:∃ _:Hid (∀ w',Only [b] wo w'→True),True:=⟨hid (fun _ _=>trivial),trivial⟩;have hgl:l.getLast? = none:=by rw[h];rfl
   rw[hgl] at HE;dsimp only at HE;obtain rfl:nl=0:=by rw[←hnl,h];rfl
   clear hgl h hnl
  rotate_left 1
  focus
   rw[List.concat_eq_append] at h;have hgl:l.getLast? = some x:=by rw[h,List.getLast?_append];rfl
   rw[hgl] at HE;dsimp only at HE;obtain⟨n,rfl⟩:∃ n,nl=n+1:=⟨l2.length,by rw[←hnl,h];simp⟩;have hlt:n<l.length:=by omega
   have hx:l[n]=x:=by have:=hgl;rw[List.getLast?_eq_getElem?,hnl,show n+1-1=n from rfl,List.getElem?_eq_getElem hlt] at this;exact Option.some.inj this
   obtain⟨b2,off,rfl,hb2,HC⟩:=hV.atS (by omega);have HX:=hid (fun w' (o:Only [b] wo w')=>hx ▸ (hV.kept' o (fun a ha hm=>(hp a ha).1 (by rw[List.mem_singleton.1 hm];exact hb))).at1 hlt);have q1:IntKind.i64.wrap (((n+1:Nat):Int)-1)=(n:Int):=by rw[IntKind.wrap_i64];omega
   have q3:IntKind.i64.wrap (((n:Int)+1)-1)=(n:Int):=by rw[IntKind.wrap_i64];omega
   have q2:(n:Int)<(n:Int)+1:=by omega
   clear HC hgl hx h hb2;obtain⟨x1,x2,x3,x4⟩:=x;dsimp only at HX HE;by_cases ht:s4≤x4
   focus
    have dht:decide (s4≤x4)=true:=decide_eq_true ht;rw[if_pos ht] at HE
   rotate_left 1
   focus
    have dht:decide (s4≤x4)=false:=decide_eq_false ht;rw[if_neg ht] at HE
 rotate_left 3
 focus
  rw[if_neg (by decide)] at HE;obtain⟨HX,-⟩:∃ _:Hid (∀ w',Only [b] wo w'→True),True:=⟨hid (fun _ _=>trivial),trivial⟩
 all_goals
  obtain rfl:=HE.out;clear HE;have VR:=hid hV;have HB0:=hid hM;have HPB:=hid hp;have m:=mm1 hF;have k:=m.out.k;have c:=HX.out wo (Only.refl [b] wo);clear hF hV hp;go_enter Tryz.func64,Tryz.ntmps64
  go_wp2_with (first|((with_reducible first|refine cM (HK.out _) ?_|refine wU ?_);clear k m c;intro w m k;have c:=HX.out w m.out.only)|((with_reducible refine rG (id:=6) [0,1,2,3,4,5,6,7,8,9,10,11,12,13,14,15,16,17,18,19,20,21,22,23] [] (by kernel_rfl) (by kernel_rfl) ?_);simp only[pick,List.map_cons,List.map_nil,List.getD_cons_succ,List.getD_cons_zero];(repeat' (first|go_big_quiet_step (fail)|(refine wpQuiet_step (fun K hK=>?_);go_simp;(first|(refine hK _ ?_;clear hK K)|(split<;>(refine hK _ ?_;clear hK K))))));all_goals (refine wpQuiet_nil ?_;clear k m c;intro w m k;have c:=HX.out w m.out.only))|((with_reducible refine lE (fun w o g k K hK=>⟨rfl,?_⟩));simp[results,Tryz.results64,go_sem];refine hK _ ?_;exact⟨rfl,HQ.out w o (Has.h w g),o⟩))
  all_goals
   obtain⟨wq,hwq⟩:∃ wq:World,wq=w:=⟨_,rfl⟩;subst hwq;have M0:=hid m;have VRq:=hid (VR.out.kept' m.out.only (fun a ha hm=>(HPB.out a ha).1 (by rw[List.mem_singleton.1 hm];exact hb)));clear VR;have VR:=VRq;clear VRq;try clear hlt
   try clear q1 q3
   try clear q2
   try clear ht dht
   try clear hnl
   refine rY (id:=8) [1,2,3,4,6] [] [] 5 (by kernel_rfl) (by kernel_rfl) ?_;simp only[pick,List.map_cons,List.map_nil,List.getD_cons_succ,List.getD_cons_zero]
   (repeat (first|(refine wpCalmG_step (fun K hK=>?_);go_simp;refine hK _ ?_;clear hK K)));refine wpCalmG_nil ?_;(repeat (refine wpCalm_step (fun K hK=>?_);go_simp;refine hK _ ?_;clear hK K));refine wpCalm_nil ?_
   intro w0 o2 _ _;have OW:=hid o2;clear o2;refine yN [0,7] (by kernel_rfl) ?_;simp only[List.mem_cons,List.not_mem_nil,or_false,forall_eq_or_imp,forall_eq];refine⟨?_,?_⟩
   focus
    refine wpOp_one rfl ?_;go_wp2;simp only[nrm];refine⟨.inr (OW.out.alloc _),fun w1 o2=>?_⟩;have R0:=hid ((row_lit (enc:=smC) (s:=4) (e:=124) (w:=w0) (l:=[]) smC_len rfl (by simp[maxLen])).kept o2 (by simp));have HB0:Hid (wq.heap.size≤w0.heap.size):=hid OW.out.size;replace OW:=hid ((OW.out.alloc _).nil_trans o2);clear o2;generalize w0.heap.size=g0 at *;refine yN [5,7] (by kernel_rfl) ?_;simp only[List.mem_cons,List.not_mem_nil,or_false,forall_eq_or_imp,forall_eq];refine⟨?_,?_⟩
    focus
     have D0:Own smC 124 4 wq.heap.size w1 (.slice (some ⟨g0,0,none⟩) (List.length (α:=Smp) []) (List.length (α:=Smp) [])) []:=.inr ⟨_,_,rfl,HB0.out,R0.out⟩;refine wpOp_one rfl ?_;refine wpList_app rfl _ _ 133 rfl 124 smZ 4 32 Tryz.underlying133 sm_info rfl (by decide) smC smC_len (fun c=>smC_one c) wq.heap.size OW.out.size [] _ (by rfl) D0 _ _ _ l (by rfl) (VR.out.kept OW.out) (by first|(simp[maxLen];done)|(simp[maxLen];omega)) (by first|(simp;done)|(simp;omega)) ?_;intro vv5 v3 hown ho;have hoB:=OW.out.trans ho (fun x hx=>.inr (D0.block_ge x hx));go_wp2;simp only[nrm];refine⟨.inr hoB,fun w2 o2=>?_⟩;have R5:=hid (hown.kept o2);replace OW:=hid (hoB.nil_trans o2);clear ho hoB hown o2;refine yN [7] (by kernel_rfl) ?_;simp only[List.mem_cons,List.not_mem_nil,or_false,forall_eq];refine wpOp_one rfl ?_;go_wp2;simp only[nrm];refine⟨.inr (OW.out.alloc _),fun w3 o2=>?_⟩;have R7:=hid ((row_lit (enc:=smC) (s:=4) (e:=124) (w:=w2) (l:=[⟨s1,s2,s3,s4⟩]) smC_len rfl (by simp[maxLen])).kept o2 (by simp));have HB7:Hid (wq.heap.size≤w2.heap.size):=hid OW.out.size;replace OW:=hid ((OW.out.alloc _).nil_trans o2);replace R5:=hid (R5.out.kept (((Only.refl [] w2).alloc _).nil_trans o2));clear o2;generalize w2.heap.size=g7 at *;refine yN [8] (by kernel_rfl) ?_;simp only[List.mem_cons,List.not_mem_nil,or_false,forall_eq];refine wpOp_one rfl ?_;refine wpList_app rfl _ _ 133 rfl 124 smZ 4 32 Tryz.underlying133 sm_info rfl (by decide) smC smC_len (fun c=>smC_one c) wq.heap.size OW.out.size ([] ++ l) _ (by rfl) R5.out _ _ _ [⟨s1,s2,s3,s4⟩] (by rfl) (R7.out.vrow smC_len rfl) (by first|(simp[maxLen];done)|(simp[maxLen];omega)) (by first|(simp;done)|(simp;omega)) ?_;intro vv8 v3 hown ho;have hoB:=OW.out.trans ho (fun x hx=>.inr (R5.out.block_ge x hx));go_wp2;simp only[nrm];refine⟨.inr hoB,fun w4 o2=>?_⟩;have R8:=hid (hown.kept o2);replace OW:=hid (hoB.nil_trans o2);clear ho hoB hown o2;refine yN [9] (by kernel_rfl) ?_;simp only[List.mem_cons,List.not_mem_nil,or_false,forall_eq];refine wpOp_one rfl ?_;go_wp2;simp only[nrm];refine⟨.inr OW.out,fun w5 o2=>?_⟩;replace OW:=hid (OW.out.nil_trans o2);replace R8:=hid (R8.out.kept o2);clear o2;unfold wpY
    rotate_left 1
    focus
     refine wpOp_one rfl ?_;go_wp2;simp only[nrm];refine⟨.inr (OW.out.alloc _),fun w2 o2=>?_⟩;have R7:=hid ((row_lit (enc:=smC) (s:=4) (e:=124) (w:=w1) (l:=[⟨s1,s2,s3,s4⟩]) smC_len rfl (by simp[maxLen])).kept o2 (by simp));have HB7:Hid (wq.heap.size≤w1.heap.size):=hid OW.out.size;have HN7:Hid (g0≠w1.heap.size):=hid (by have:=R0.out.lt;omega);replace OW:=hid ((OW.out.alloc _).nil_trans o2);replace R0:=hid (R0.out.kept (((Only.refl [] w1).alloc _).nil_trans o2) (by simp));clear o2;generalize w1.heap.size=g7 at *;refine yN [5] (by kernel_rfl) ?_;simp only[List.mem_cons,List.not_mem_nil,or_false,forall_eq];have D0:Own smC 124 4 wq.heap.size w2 (.slice (some ⟨g0,0,none⟩) (List.length (α:=Smp) []) (List.length (α:=Smp) [])) []:=.inr ⟨_,_,rfl,HB0.out,R0.out⟩;refine wpOp_one rfl ?_;refine wpList_app rfl _ _ 133 rfl 124 smZ 4 32 Tryz.underlying133 sm_info rfl (by decide) smC smC_len (fun c=>smC_one c) wq.heap.size OW.out.size [] _ (by rfl) D0 _ _ _ l (by rfl) (VR.out.kept OW.out) (by first|(simp[maxLen];done)|(simp[maxLen];omega)) (by first|(simp;done)|(simp;omega)) ?_;intro vv5 v3 hown ho;have hoB:=OW.out.trans ho (fun x hx=>.inr (D0.block_ge x hx));go_wp2;simp only[nrm];refine⟨.inr hoB,fun w3 o2=>?_⟩;have R5:=hid (hown.kept o2);replace R7:=hid ((R7.out.kept ho (by simp[Value.ownBlock];first|exact HN7.out|exact HN7.out.symm|exact HN0.out|exact HN0.out.symm)).kept o2 (by simp));replace OW:=hid (hoB.nil_trans o2);clear ho hoB hown o2;refine yN [8] (by kernel_rfl) ?_;simp only[List.mem_cons,List.not_mem_nil,or_false,forall_eq];refine wpOp_one rfl ?_;refine wpList_app rfl _ _ 133 rfl 124 smZ 4 32 Tryz.underlying133 sm_info rfl (by decide) smC smC_len (fun c=>smC_one c) wq.heap.size OW.out.size ([] ++ l) _ (by rfl) R5.out _ _ _ [⟨s1,s2,s3,s4⟩] (by rfl) (R7.out.vrow smC_len rfl) (by first|(simp[maxLen];done)|(simp[maxLen];omega)) (by first|(simp;done)|(simp;omega)) ?_;intro vv8 v3 hown ho;have hoB:=OW.out.trans ho (fun x hx=>.inr (R5.out.block_ge x hx));go_wp2;simp only[nrm];refine⟨.inr hoB,fun w4 o2=>?_⟩;have R8:=hid (hown.kept o2);replace OW:=hid (hoB.nil_trans o2);clear ho hoB hown o2;refine yN [9] (by kernel_rfl) ?_;simp only[List.mem_cons,List.not_mem_nil,or_false,forall_eq];refine wpOp_one rfl ?_;go_wp2;simp only[nrm];refine⟨.inr OW.out,fun w5 o2=>?_⟩;replace OW:=hid (OW.out.nil_trans o2);replace R8:=hid (R8.out.kept o2);clear o2;unfold wpY
    rotate_left 1
   rotate_left 2
   focus
    refine wpOp_one rfl ?_;go_wp2;simp only[nrm];refine⟨.inr (OW.out.alloc _),fun w1 o2=>?_⟩;have R7:=hid ((row_lit (enc:=smC) (s:=4) (e:=124) (w:=w0) (l:=[⟨s1,s2,s3,s4⟩]) smC_len rfl (by simp[maxLen])).kept o2 (by simp));have HB7:Hid (wq.heap.size≤w0.heap.size):=hid OW.out.size;replace OW:=hid ((OW.out.alloc _).nil_trans o2);clear o2;generalize w0.heap.size=g7 at *;refine yN [0] (by kernel_rfl) ?_;simp only[List.mem_cons,List.not_mem_nil,or_false,forall_eq];refine wpOp_one rfl ?_;go_wp2;simp only[nrm];refine⟨.inr (OW.out.alloc _),fun w2 o2=>?_⟩;have R0:=hid ((row_lit (enc:=smC) (s:=4) (e:=124) (w:=w1) (l:=[]) smC_len rfl (by simp[maxLen])).kept o2 (by simp));have HB0:Hid (wq.heap.size≤w1.heap.size):=hid OW.out.size;have HN0:Hid (g7≠w1.heap.size):=hid (by have:=R7.out.lt;omega);replace OW:=hid ((OW.out.alloc _).nil_trans o2);replace R7:=hid (R7.out.kept (((Only.refl [] w1).alloc _).nil_trans o2) (by simp));clear o2;generalize w1.heap.size=g0 at *;refine yN [5] (by kernel_rfl) ?_;simp only[List.mem_cons,List.not_mem_nil,or_false,forall_eq];have D0:Own smC 124 4 wq.heap.size w2 (.slice (some ⟨g0,0,none⟩) (List.length (α:=Smp) []) (List.length (α:=Smp) [])) []:=.inr ⟨_,_,rfl,HB0.out,R0.out⟩;refine wpOp_one rfl ?_;refine wpList_app rfl _ _ 133 rfl 124 smZ 4 32 Tryz.underlying133 sm_info rfl (by decide) smC smC_len (fun c=>smC_one c) wq.heap.size OW.out.size [] _ (by rfl) D0 _ _ _ l (by rfl) (VR.out.kept OW.out) (by first|(simp[maxLen];done)|(simp[maxLen];omega)) (by first|(simp;done)|(simp;omega)) ?_;intro vv5 v3 hown ho;have hoB:=OW.out.trans ho (fun x hx=>.inr (D0.block_ge x hx));go_wp2;simp only[nrm];refine⟨.inr hoB,fun w3 o2=>?_⟩;have R5:=hid (hown.kept o2);replace R7:=hid ((R7.out.kept ho (by simp[Value.ownBlock];first|exact HN7.out|exact HN7.out.symm|exact HN0.out|exact HN0.out.symm)).kept o2 (by simp));replace OW:=hid (hoB.nil_trans o2);clear ho hoB hown o2;refine yN [8] (by kernel_rfl) ?_;simp only[List.mem_cons,List.not_mem_nil,or_false,forall_eq];refine wpOp_one rfl ?_;refine wpList_app rfl _ _ 133 rfl 124 smZ 4 32 Tryz.underlying133 sm_info rfl (by decide) smC smC_len (fun c=>smC_one c) wq.heap.size OW.out.size ([] ++ l) _ (by rfl) R5.out _ _ _ [⟨s1,s2,s3,s4⟩] (by rfl) (R7.out.vrow smC_len rfl) (by first|(simp[maxLen];done)|(simp[maxLen];omega)) (by first|(simp;done)|(simp;omega)) ?_;intro vv8 v3 hown ho;have hoB:=OW.out.trans ho (fun x hx=>.inr (R5.out.block_ge x hx));go_wp2;simp only[nrm];refine⟨.inr hoB,fun w4 o2=>?_⟩;have R8:=hid (hown.kept o2);replace OW:=hid (hoB.nil_trans o2);clear ho hoB hown o2;refine yN [9] (by kernel_rfl) ?_;simp only[List.mem_cons,List.not_mem_nil,or_false,forall_eq];refine wpOp_one rfl ?_;go_wp2;simp only[nrm];refine⟨.inr OW.out,fun w5 o2=>?_⟩;replace OW:=hid (OW.out.nil_trans o2);replace R8:=hid (R8.out.kept o2);clear o2;unfold wpY
   rotate_left 1
  all_goals
   rcases R8.out with ⟨-,h⟩|⟨g,cp,rfl,hg,hrow⟩
   focus
    simp at h
   rw[List.nil_append] at hrow ⊢;obtain⟨n8,hn8⟩:∃ n,(l ++ [⟨s1,s2,s3,s4⟩]:List Smp).length=n:=⟨_,rfl⟩;rw[hn8];have hl8:n8=l.length+1:=by rw[←hn8];simp
   obtain⟨wp,hwp⟩:∃ wp:World,wp=w5:=⟨_,rfl⟩;subst hwp;have hbq:=(⟨M0.out.out.call OW.out⟩:Mm wo [b] wp _).out.got.2.1;have HOW:=hid (M0.out.out.only.trans OW.out (by simp));have hws:=M0.out.out.only.size
   have hcp:n8≤cp:=by
    obtain⟨_,_,_,h,_⟩:=hrow;rwa [hn8] at h
   have hgM:∀ x∈M,x≠g:=fun x hx=>by have:=hM x hx;omega
   have hv:=hrow.vrow smC_len hn8.symm
   have HQA:=hid (fun w' (o:Only [b] wp w') (h:w'.heap[b]? = some (.cells #[.int .i64 tol,.slice (some ⟨g,0,none⟩) n8 cp,.bool an,.int .i64 fr] 135 (0,0))) (h9:¬ 8<n8)=>show QFlAt M w' b (fPush ⟨tol,l⟩ ⟨s1,s2,s3,s4⟩) from by
    unfold fPush;rw[if_neg (by dsimp only;omega)];exact⟨some ⟨g,0,none⟩,cp,an,fr,by dsimp only;rw[hn8];exact h,by dsimp only;rw[hn8];exact hv.kept' o (fun a ha=>by cases ha;simpa using (hgM b hb).symm),fun a ha=>by cases ha;exact⟨fun hm=>hgM _ hm rfl,Nat.lt_of_lt_of_le hrow.lt o.size⟩⟩)
   have HQB:=hid (fun w' (o:Only [b] wp w') (h:w'.heap[b]? = some (.cells #[.int .i64 tol,.slice (some ⟨g,4,none⟩) (n8-1) (cp-1),.bool an,.int .i64 fr] 135 (0,0))) (h9:8<n8)=>show QFlAt M w' b (fPush ⟨tol,l⟩ ⟨s1,s2,s3,s4⟩) from by
    have e:(l.drop 1 ++ [⟨s1,s2,s3,s4⟩]:List Smp)=(l ++ [⟨s1,s2,s3,s4⟩]:List Smp).drop 1:=by rw[List.drop_append,show 1-l.length=0 by omega];rfl
    have e2:(l.drop 1 ++ [⟨s1,s2,s3,s4⟩]:List Smp).length=n8-1:=by rw[e,List.length_drop,hn8]
    unfold fPush;rw[if_pos (by dsimp only;omega)];exact⟨some ⟨g,4,none⟩,cp-1,an,fr,by dsimp only;rw[e2];exact h,by dsimp only;rw[e2,e];exact (hv.drop 1 (by omega)).kept' o (fun a ha=>by cases ha;simpa using (hgM b hb).symm),fun a ha=>by cases ha;exact⟨fun hm=>hgM _ hm rfl,Nat.lt_of_lt_of_le hrow.lt o.size⟩⟩)
   have hc1:¬ cp=1∨¬ 8<n8:=by omega
   have hc2:1≤n8:=by omega
   clear hn8 hl8 h8 hrow hg R8 OW M0 VR HX HK hnb hv hgM hws;have m:=mm1 hbq;have k:=m.out.k;clear hbq;by_cases h9:8<n8
   focus
    have d9:decide ((8:Int)<(n8:Int))=true:=decide_eq_true (by omega);have hc3:¬ cp=1:=by omega
    go_wp2_with (first|((with_reducible refine wU ?_);clear k m;intro w m k)|((with_reducible refine lE (fun w o g k K hK=>⟨rfl,?_⟩));simp[results,Tryz.results64,go_sem];refine hK _ ?_;exact⟨rfl,HQB.out w o (Has.h w g) h9,HOW.out.trans o (by simp)⟩))
   have d9:decide ((8:Int)<(n8:Int))=false:=decide_eq_false (by omega);go_wp2_with (first|((with_reducible refine wU ?_);clear k m;intro w m k)|((with_reducible refine lE (fun w o g k K hK=>⟨rfl,?_⟩));simp[results,Tryz.results64,go_sem];refine hK _ ?_;exact⟨rfl,HQA.out w o (Has.h w g) h9,HOW.out.trans o (by simp)⟩))
end
section
open Go.Lib (hid)
set_option maxRecDepth 100000
set_option maxHeartbeats 16000000
open Go.RowKit Go.Sort
theorem qacc_kind (a:As) (p:Np) (now:Int):(aAcc a p now).kind=4∨(aAcc a p now).kind=5∨(aAcc a p now).kind=6∨(aAcc a p now).kind=7:=by
 unfold aAcc hdK;split
 ·simp
 ·split
  ·split<;>simp
  ·simp
theorem qARecv {w:World} {b:Nat} {a:As} (ha:QAsAt w b a) (p:Np) (now:Int) (hp:npOk p) :
  Calls Tryz.prog 60 #[.pointer (some ⟨b,0,none⟩),npV p,.int .i64 now] w fun e w'=>e=.returned (hdV (aRecv a p now).1)∧QAsAt w' b (aRecv a p now).2∧Only [b] w w':=by
 obtain⟨h1,c0,c1,c2,c3,c4,c5,c6,c7,hA⟩:=ha;obtain⟨ver,t1,nonce,pend,xmt⟩:=a;dsimp only at hA h1;have HC:=hid (fun w'=>qNChk p w');have HI:=hid (fun w'=>qRdg now w');have HHD:=hid (fun (w':World) (h:w'.heap[b]? = some (.cells #[.int .i64 ver,.bool (!decide (nonce=0)),.bool pend,.int .i64 t1,.int .u64 nonce,.int .u64 xmt,.int .i64 c0,.int .i64 c1,.int .i64 c2,.int .i64 c3,.int .i64 c4,.int .i64 c5,.int .i64 c6,.int .i64 c7] 132 (0,0))) hn=>qHeard h p now hp hn);have hk:=qacc_kind ⟨ver,t1,nonce,pend,xmt⟩ p now;obtain⟨⟨res,res2⟩,HE⟩:∃ zz,Hid (aRecv ⟨ver,t1,nonce,pend,xmt⟩ p now=zz):=⟨_,hid rfl⟩;rw[HE.out]
 replace HE:Hid ((if nchk p=0∧p.mode=4∧isT now=true∧¬ ((!decide (nonce=0))=true∧now<t1) then (if pend=true then (if p.org=nonce then (if p.xmt≠0∧p.xmt=xmt then (hdK 3,(⟨ver,t1,nonce,pend,xmt⟩:As)) else (aAcc ⟨ver,t1,nonce,pend,xmt⟩ p now,⟨ver,t1,nonce,false,p.xmt⟩)) else (hdK 2,⟨ver,t1,nonce,pend,xmt⟩)) else (hdK 1,⟨ver,t1,nonce,pend,xmt⟩)) else (hdK 0,⟨ver,t1,nonce,pend,xmt⟩))=(res,res2)):=hid (by
  rw[←HE.out];unfold aRecv aRef;dsimp only
  have e1:(t1≠0∨nonce≠0)↔(!decide (nonce=0))=true:=by
   by_cases hz:nonce=0
   ·simp[hz,h1 hz]
   ·simp[hz]
  simp only[e1];repeat' split
  all_goals simp_all)
 unfold QAsAt;have H1:=hid h1;clear h1;generalize aAcc ⟨ver,t1,nonce,pend,xmt⟩ p now=ac at HHD hk HE;generalize nchk p=en at HC HE;generalize isT now=it at HI HE HHD;generalize hse:(!decide (nonce=0))=se at hA HE HHD;have HSE:=hid hse;clear hse;obtain⟨ak,akc,⟨q1,q2,q3,q4⟩⟩:=ac;obtain⟨p1,p2,p3,p4,p5,p6,p7,p8,p9,pa,pb,pc,pd⟩:=p;unfold npV at *;unfold hdV at *;dsimp only at *;clear hp;by_cases he:en=0
 focus
  subst he;by_cases hm:p3=4
  focus
   subst hm
   cases it
   focus
    obtain⟨rfl,rfl⟩:res=hdK 0∧res2=⟨ver,t1,nonce,pend,xmt⟩:=by have:=HE.out;simpa using this.symm
    clear hk
   rotate_left 1
   focus
    have HH:=hid (fun w' h=>HHD.out w' h rfl)
    cases se
    focus
     replace HE:Hid (_=(res,res2)):=hid (by have:=HE.out;simpa using this)
     cases pend
     focus
      obtain⟨rfl,rfl⟩:res=hdK 1∧res2=⟨ver,t1,nonce,false,xmt⟩:=by have:=HE.out;simpa using this.symm
      clear hk
     rotate_left 1
     focus
      by_cases hg:pb=nonce
      focus
       subst hg;by_cases hx:pd=0
       focus
        subst hx;obtain⟨rfl,rfl⟩:res=⟨ak,akc,⟨q1,q2,q3,q4⟩⟩∧res2=⟨ver,t1,pb,false,0⟩:=by have:=HE.out;simpa using this.symm
       rotate_left 1
       focus
        have dx:(pd != 0)=true:=by simpa using hx
        by_cases hy:pd=xmt
        focus
         subst hy;have dy:(pd == pd)=true:=by simp
         obtain⟨rfl,rfl⟩:res=hdK 3∧res2=⟨ver,t1,pb,true,pd⟩:=by have:=HE.out;simpa [hx] using this.symm
         clear hk
        rotate_left 1
        focus
         have dy:(pd == xmt)=false:=by simpa using hy
         obtain⟨rfl,rfl⟩:res=⟨ak,akc,⟨q1,q2,q3,q4⟩⟩∧res2=⟨ver,t1,pb,false,pd⟩:=by have:=HE.out;simpa [hx,hy] using this.symm
      rotate_left 3
      focus
       have dg:(pb != nonce)=true:=by simpa using hg
       obtain⟨rfl,rfl⟩:res=hdK 2∧res2=⟨ver,t1,nonce,true,xmt⟩:=by have:=HE.out;simpa [hg] using this.symm
       clear hk
    rotate_left 5
    focus
     by_cases ho:now<t1
     focus
      have dho:decide (now<t1)=true:=decide_eq_true ho;obtain⟨rfl,rfl⟩:res=hdK 0∧res2=⟨ver,t1,nonce,pend,xmt⟩:=by have:=HE.out;simpa [ho] using this.symm
      clear hk
     rotate_left 1
     focus
      have dho:decide (now<t1)=false:=decide_eq_false ho;replace HE:Hid (_=(res,res2)):=hid (by have:=HE.out;simpa [ho] using this)
      cases pend
      focus
       obtain⟨rfl,rfl⟩:res=hdK 1∧res2=⟨ver,t1,nonce,false,xmt⟩:=by have:=HE.out;simpa using this.symm
       clear hk
      rotate_left 1
      focus
       by_cases hg:pb=nonce
       focus
        subst hg;by_cases hx:pd=0
        focus
         subst hx;obtain⟨rfl,rfl⟩:res=⟨ak,akc,⟨q1,q2,q3,q4⟩⟩∧res2=⟨ver,t1,pb,false,0⟩:=by have:=HE.out;simpa using this.symm
        rotate_left 1
        focus
         have dx:(pd != 0)=true:=by simpa using hx
         by_cases hy:pd=xmt
         focus
          subst hy;have dy:(pd == pd)=true:=by simp
          obtain⟨rfl,rfl⟩:res=hdK 3∧res2=⟨ver,t1,pb,true,pd⟩:=by have:=HE.out;simpa [hx] using this.symm
          clear hk
         rotate_left 1
         focus
          have dy:(pd == xmt)=false:=by simpa using hy
          obtain⟨rfl,rfl⟩:res=⟨ak,akc,⟨q1,q2,q3,q4⟩⟩∧res2=⟨ver,t1,pb,false,pd⟩:=by have:=HE.out;simpa [hx,hy] using this.symm
       rotate_left 3
       focus
        have dg:(pb != nonce)=true:=by simpa using hg
        obtain⟨rfl,rfl⟩:res=hdK 2∧res2=⟨ver,t1,nonce,true,xmt⟩:=by have:=HE.out;simpa [hg] using this.symm
        clear hk
  rotate_left 12
  focus
   have d1:(p3 != 4)=true:=by simpa using hm
   obtain⟨rfl,rfl⟩:res=hdK 0∧res2=⟨ver,t1,nonce,pend,xmt⟩:=by have:=HE.out;simpa [hm] using this.symm
   clear hk
 rotate_left 13
 focus
  have d0:(en != 0)=true:=by simpa using he
  obtain⟨rfl,rfl⟩:res=hdK 0∧res2=⟨ver,t1,nonce,pend,xmt⟩:=by have:=HE.out;simpa [he] using this.symm
  clear hk
 all_goals
  try unfold hdK
  try dsimp only
  clear HE;have m:=mm1 hA;have k:=m.out.k;clear hA;go_enter Tryz.func60,Tryz.ntmps60
  go_wp2_with (first|((with_reducible first|refine cM (HC.out _) ?_|refine cM (HI.out _) ?_|refine cM (HH.out _ gB) ?_|refine wU ?_);clear k m;intro w m k)|((with_reducible refine rG (id:=11) [0,1,2,3,4,5,6,7] [] (by kernel_rfl) (by kernel_rfl) ?_);simp only[pick,List.map_cons,List.map_nil,List.getD_cons_succ,List.getD_cons_zero];(repeat' (first|go_big_quiet_step (with_reducible first|exact gX (HC.out _)|exact gX (HI.out _)|exact gX (HH.out _ gB))|(refine wpQuiet_step (fun K hK=>?_);go_simp;(first|(refine hK _ ?_;clear hK K)|(split<;>(refine hK _ ?_;clear hK K))))));all_goals (refine wpQuiet_nil ?_;clear k m;intro w m k))|((with_reducible refine rG (id:=13) [0,1,2,3,4,5,6,7,8,9,10,11,12] [] (by kernel_rfl) (by kernel_rfl) ?_);simp only[pick,List.map_cons,List.map_nil,List.getD_cons_succ,List.getD_cons_zero];(repeat' (first|go_big_quiet_step (with_reducible first|exact gX (HC.out _)|exact gX (HI.out _)|exact gX (HH.out _ gB))|(refine wpQuiet_step (fun K hK=>?_);go_simp;(first|(refine hK _ ?_;clear hK K)|(split<;>(refine hK _ ?_;clear hK K))))));all_goals (refine wpQuiet_nil ?_;clear k m;intro w m k)))
 all_goals try (rcases hk with rfl|rfl|rfl|rfl)
 all_goals go_wp2_with (first|((with_reducible refine rG (id:=15) [0,1,2,3,4,5,6,7,8,9,10,11,12,13] [14] (by kernel_rfl) (by kernel_rfl) ?_);simp only[pick,List.map_cons,List.map_nil,List.getD_cons_succ,List.getD_cons_zero];(repeat' (first|go_big_quiet_step (fail)|(refine wpQuiet_step (fun K hK=>?_);go_simp;(first|(refine hK _ ?_;clear hK K)|(split<;>(refine hK _ ?_;clear hK K))))));all_goals (refine wpQuiet_nil ?_;clear k m;intro w m k))|((with_reducible refine wU ?_);clear k m;intro w m k)|((with_reducible refine lE (fun w o g k K hK=>⟨rfl,?_⟩));simp[results,Tryz.results60,go_sem,k];refine hK _ ?_;exact⟨rfl,⟨H1.out,_,_,_,_,_,_,_,_,(by rw[HSE.out];exact Has.h w g)⟩,o⟩))
end
section
open Go.Lib (hid)
set_option maxRecDepth 100000
set_option maxHeartbeats 16000000
open Go.RowKit Go.Sort
theorem qFOrder {M:List Nat} {w:World} {b:Nat} {f:Fl} (hf:QFlAt M w b f) (hri:Ris f.l) (h8:f.l.length≤8) :
  Calls Tryz.prog 158 #[.pointer (some ⟨b,0,none⟩)] w fun e w'=>(∃ v,e=.returned v∧Own smC 124 4 w.heap.size w' v (ordS f.l))∧Only [] w w':=by
 obtain⟨p,cap,an,fr,hF,hV,-⟩:=hf;obtain⟨tol,l⟩:=f;dsimp only at hF hV h8 hri ⊢;have HF:=hid hF;have HV:=hid hV;have HRI:=hid hri;obtain⟨wo,hwo⟩:∃ wo:World,wo=w:=⟨_,rfl⟩;subst hwo;go_enter Tryz.func158,Tryz.ntmps158
 have HX0:=hid (fun w' (o:Only [] wo w')=>And.intro (got_lt (o.got HF.out (by simp))) (cell_got (o.got HF.out (by simp)) 1));have c:=HX0.out wo (Only.refl [] wo);go_wp2_with fail
 clear c;go_loopw [3,4] (fun vo vi wr=>∃ i:Nat,i≤l.length∧vi=.int .i64 i∧Own smC 124 4 wo.heap.size wr vo (ordS (l.take i))∧Only [] wo wr) (fun _ vi _=>l.length-(intOf vi).toNat)
 case atStart=>exact⟨0,Nat.zero_le _,rfl,by rw[List.take_zero,ordS_nil];exact own_nil _ _,Only.refl _ _⟩
 case round =>
  obtain⟨i,hi,rfl,hown,ho⟩:=hrel;have OW:=hid hown;have OO:=hid ho;by_cases hlt:i<l.length
  ·have hxs:l.take (i+1)=l.take i ++ [l[i]]:=take_snoc l hlt
   have hri2:Ris (l.take i ++ [l[i]]):=by rw[←hxs];exact List.Pairwise.sublist (List.take_sublist _ _) HRI.out
   have hol:(ordS (l.take i)).length=i:=by rw[(ordS_perm _).length_eq,List.length_take];omega
   have HPUT:Hid (∀ k (_:k≤(ordS (l.take i)).length) (_:∀ j (hj:j<(ordS (l.take i)).length),j<k→(ordS (l.take i))[j].dly<l[i].dly) (_:∀ (h:k<(ordS (l.take i)).length),l[i].dly≤(ordS (l.take i))[k].dly),ordS (l.take (i+1))=(ordS (l.take i)).take k ++ l[i]::(ordS (l.take i)).drop k):=hid (fun k hk h1 h2=>by rw[hxs];exact ordS_put hri2 hk h1 h2);clear hxs hri2;have HLT:=hid hlt;obtain⟨b2,off,rfl,hb2,HC⟩:=HV.out.atS (by omega);have HX0:=hid (fun w' (o:Only [] wo w')=>And.intro (got_lt (o.got HF.out (by simp))) (And.intro (cell_got (o.got HF.out (by simp)) 1) (HC i hlt w' o)));generalize l[i]=x at HPUT HX0;generalize ordS (l.take i)=out at OW HPUT hol;obtain⟨x1,x2,x3,x4⟩:=x;dsimp only at HPUT HX0;obtain⟨po,co,rfl,hvo⟩:=Own.vrow (enc:=smC) (s:=4) smC_len OW.out
   have HPO:Hid ((po=none∧co=0∧out=[])∨∃ g,po=some ⟨g,0,none⟩):=hid (by
    rcases OW.out with ⟨h1,h2⟩|⟨g,c,h1,_⟩
    ·simp only[Value.slice.injEq] at h1;exact .inl ⟨h1.1,h1.2.2,h2⟩
    ·simp only[Value.slice.injEq] at h1;exact .inr ⟨g,h1.1⟩)
   have HCO:=hid hvo.le;have HVO:=hid hvo;have HL:=hid hol;have hlt2:(i:Int)<(l.length:Int):=by omega
   rw[hol];have hfb:=ho.got HF.out (by simp);clear hown ho HC hb2;obtain⟨wl,hwl⟩:∃ wl:World,wl=wr:=⟨_,rfl⟩;subst hwl;have m:=mmR hfb;have k:=m.out.k;go_wp2_with fail
   clear m k;go_loopw [5] (fun vk wr=>∃ j:Nat,j≤i∧vk=.int .i64 j∧(∀ q (hq:q<out.length),q<j→out[q].dly<x2)∧Only [] wl wr) (fun vk _=>i-(intOf vk).toNat)
   case atStart=>exact⟨0,Nat.zero_le _,rfl,fun q _ h=>absurd h (Nat.not_lt_zero _),Only.refl _ _⟩
   case round =>
    obtain⟨j,hj,rfl,hbl,ho2⟩:=hrel;have O2:=hid ho2;have HB:=hid hbl;have HX1:=hid (fun w' (o:Only [] wr w')=>HX0.out w' (OO.out.nil_trans (O2.out.nil_trans o)));clear ho2 hbl;by_cases hjl:j<i
    focus
     have hjo:j<out.length:=by rw[hol];exact hjl
     have djl:(j:Int)<(i:Int):=by omega
     obtain⟨b3,of3,rfl,hb3,HC3⟩:=(HVO.out.kept O2.out).atS (by omega);have HX:=hid (fun w' (o:Only [] wr w')=>And.intro (HX1.out w' o) (HC3 j hjo w' o));have HY:=hid (fun (h:¬ out[j].dly<x2)=>HPUT.out j (by omega) HB.out (fun _=>by omega));have HZ:=hid (fun (h:out[j].dly<x2) q (hq:q<out.length) (hqj:q<j+1)=>if e:q=j then (by subst e;exact h:out[q].dly<x2) else HB.out q hq (by omega));generalize out[j]=y at HX HY HZ;obtain⟨y1,y2,y3,y4⟩:=y;dsimp only at HX HY HZ;have m:=mm0 wr [];have k:=m.out.k;have c:=HX.out wr (Only.refl [] wr);clear HC3 hb3;by_cases hd:y2<x2
     focus
      have dd:decide (y2<x2)=true:=decide_eq_true hd;go_wp2_with (first|((with_reducible refine rG (id:=6) [0,1,2,3,4,5,6,7,8,9,10,11,12,13,14,15,16,17,18,19] [] (by kernel_rfl) (by kernel_rfl) ?_);simp only[pick,List.map_cons,List.map_nil,List.getD_cons_succ,List.getD_cons_zero];(repeat' (first|go_big_quiet_step (fail)|(refine wpQuiet_step (fun K hK=>?_);go_simp;(first|(refine hK _ ?_;clear hK K)|(split<;>(refine hK _ ?_;clear hK K))))));all_goals (refine wpQuiet_nil ?_;clear k m c;intro w m k;have c:=HX.out w m.out.only))|((with_reducible refine wU ?_);clear k m c;intro w m k;have c:=HX.out w m.out.only)|(go_roundw;(case rel=>exact⟨j+1,by omega,by go_num,HZ.out hd,O2.out.nil_trans gO⟩);(case measure=>first|(simp[intOf];done)|(simp[intOf];omega))))
     have dd:decide (y2<x2)=false:=decide_eq_false hd;have HRES:=hid (HY.out hd);go_wp2_with (first|((with_reducible refine rG (id:=6) [0,1,2,3,4,5,6,7,8,9,10,11,12,13,14,15,16,17,18,19] [] (by kernel_rfl) (by kernel_rfl) ?_);simp only[pick,List.map_cons,List.map_nil,List.getD_cons_succ,List.getD_cons_zero];(repeat' (first|go_big_quiet_step (fail)|(refine wpQuiet_step (fun K hK=>?_);go_simp;(first|(refine hK _ ?_;clear hK K)|(split<;>(refine hK _ ?_;clear hK K))))));all_goals (refine wpQuiet_nil ?_;clear k m c;intro w m k;have c:=HX.out w m.out.only))|((with_reducible refine wU ?_);clear k m c;intro w m k;have c:=HX.out w m.out.only))
    rotate_left
    focus
     obtain rfl:j=i:=by omega
     have HX:=HX1;have HRES:=hid (HPUT.out j (by omega) HB.out (fun h=>absurd h (by omega)));have m:=mm0 wr [];have k:=m.out.k;have c:=HX.out wr (Only.refl [] wr);go_wp2_with (first|((with_reducible refine rG (id:=6) [0,1,2,3,4,5,6,7,8,9,10,11,12,13,14,15,16,17,18,19] [] (by kernel_rfl) (by kernel_rfl) ?_);simp only[pick,List.map_cons,List.map_nil,List.getD_cons_succ,List.getD_cons_zero];(repeat' (first|go_big_quiet_step (fail)|(refine wpQuiet_step (fun K hK=>?_);go_simp;(first|(refine hK _ ?_;clear hK K)|(split<;>(refine hK _ ?_;clear hK K))))));all_goals (refine wpQuiet_nil ?_;clear k m c;intro w m k;have c:=HX.out w m.out.only))|((with_reducible refine wU ?_);clear k m c;intro w m k;have c:=HX.out w m.out.only))
    all_goals
     have hij:j≤out.length:=by omega
     have hjc:j≤co:=by have:=HCO.out;omega
     have hw1:=O2.out;obtain⟨wq,hwq⟩:∃ wq:World,wq=w:=⟨_,rfl⟩;subst hwq;have OQ:=hid (hw1.nil_trans m.out.only);have OB:=hid (OO.out.nil_trans OQ.out).size;clear hw1;have HVQ:=hid (HVO.out.kept OQ.out);rcases HPO.out with ⟨h1,h2,h3⟩|⟨g,h1⟩
    all_goals first|(cases h1;done)|(subst h1)|(obtain⟨rfl,rfl⟩:g=b3∧0=of3:=by simpa using h1.symm)
    all_goals first
     |have e3:=h3
      have e2:j=0:=Nat.le_zero.1 (h2 ▸ hjc);have e5:=hol;rw[h3,List.length_nil] at e5;have VT:=hid (show VRow smC 4 wq none 0 0 (out.take j) from by rw[h3,List.take_nil];exact vrow_nil _);have VD:=hid (show VRow smC 4 wq none 0 0 (out.drop j) from by rw[h3,List.drop_nil];exact vrow_nil _);have HI0:=hid e5;have hz:0<l.length:=by omega
      have hz2:(0:Int)<(l.length:Int):=by omega
      simp only[h2,e2];first|simp only[←e5]|skip
      first|rw[←e5] at c|rw[e2] at c
      simp only[Nat.zero_mul,Nat.add_zero] at c;clear e3 e5 e2 h2 h3 hol hlt hlt2 hij hjc hj
     |have VT:=hid (HVQ.out.take j hij)
      by_cases hcj:co=j
      focus
       have e5:out.length=j:=by have:=HCO.out;omega
       have VD:=hid (show VRow smC 4 wq (some ⟨g,0,none⟩) 0 0 (out.drop j) from by rw[List.drop_of_length_le (by omega)];exact⟨rfl,Nat.le_refl _,Nat.zero_le _,by simp,by simp⟩);rw[hol] at e5;first|(rw[hcj,e5];rw[e5] at c)|rw[hcj]
       have hz:j<l.length:=by omega
       have hz2:(j:Int)<(l.length:Int):=by omega
       rw[hcj] at VT;have HI0:=hid e5;clear e5 hcj
      rotate_left
      have VD:=hid (HVQ.out.drop j hij);rw[hol,Nat.zero_add] at VD;first|simp only[Nat.sub_self] at VD|skip
      have hc2:¬ co≤j:=by omega
    all_goals
     refine rY (id:=8) [1,2,3,5,6,7,8,9,10,11,14,15,16] [] [] 6 (by kernel_rfl) (by kernel_rfl) ?_;simp only[pick,List.map_cons,List.map_nil,List.getD_cons_succ,List.getD_cons_zero]
     (repeat (first|(refine wpCalmG_step (fun K hK=>?_);go_simp;refine hK _ ?_;clear hK K)));refine wpCalmG_nil ?_;(repeat (refine wpCalm_step (fun K hK=>?_);go_simp;refine hK _ ?_;clear hK K));refine wpCalm_nil ?_
     intro w0 o2 _ _;have OW:=hid o2;clear o2;refine yN [0,12] (by kernel_rfl) ?_;simp only[List.mem_cons,List.not_mem_nil,or_false,forall_eq_or_imp,forall_eq];refine⟨?_,?_⟩
     focus
      refine wpOp_one rfl ?_;go_wp2;simp only[nrm];refine⟨.inr (OW.out.alloc _),fun w1 o2=>?_⟩;have R0:=hid ((row_lit (enc:=smC) (s:=4) (e:=124) (w:=w0) (l:=[]) smC_len rfl (by simp[maxLen])).kept o2 (by simp));have HB0:Hid (wq.heap.size≤w0.heap.size):=hid OW.out.size;replace OW:=hid ((OW.out.alloc _).nil_trans o2);clear o2;generalize w0.heap.size=g0 at *;refine yN [4,12] (by kernel_rfl) ?_;simp only[List.mem_cons,List.not_mem_nil,or_false,forall_eq_or_imp,forall_eq];refine⟨?_,?_⟩
      focus
       have D0:Own smC 124 4 wq.heap.size w1 (.slice (some ⟨g0,0,none⟩) (List.length (α:=Smp) []) (List.length (α:=Smp) [])) []:=.inr ⟨_,_,rfl,HB0.out,R0.out⟩;refine wpOp_one rfl ?_;refine wpList_app rfl _ _ 133 rfl 124 smZ 4 32 Tryz.underlying133 sm_info rfl (by decide) smC smC_len (fun c=>smC_one c) wq.heap.size OW.out.size [] _ (by rfl) D0 _ _ _ (out.take j) (by rfl) (VT.out.kept OW.out) (by first|(simp[maxLen];done)|(simp[maxLen];omega)) (by first|(simp;done)|(simp;omega)) ?_;intro vv4 v3 hown ho;have hoB:=OW.out.trans ho (fun x hx=>.inr (D0.block_ge x hx));go_wp2;simp only[nrm];refine⟨.inr hoB,fun w2 o2=>?_⟩;have R4:=hid (hown.kept o2);replace OW:=hid (hoB.nil_trans o2);clear ho hoB hown o2;refine yN [12] (by kernel_rfl) ?_;simp only[List.mem_cons,List.not_mem_nil,or_false,forall_eq];refine wpOp_one rfl ?_;go_wp2;simp only[nrm];refine⟨.inr (OW.out.alloc _),fun w3 o2=>?_⟩;have R12:=hid ((row_lit (enc:=smC) (s:=4) (e:=124) (w:=w2) (l:=[⟨x1,x2,x3,x4⟩]) smC_len rfl (by simp[maxLen])).kept o2 (by simp));have HB12:Hid (wq.heap.size≤w2.heap.size):=hid OW.out.size;replace OW:=hid ((OW.out.alloc _).nil_trans o2);replace R4:=hid (R4.out.kept (((Only.refl [] w2).alloc _).nil_trans o2));clear o2;generalize w2.heap.size=g12 at *;refine yN [13] (by kernel_rfl) ?_;simp only[List.mem_cons,List.not_mem_nil,or_false,forall_eq];refine wpOp_one rfl ?_;refine wpList_app rfl _ _ 133 rfl 124 smZ 4 32 Tryz.underlying133 sm_info rfl (by decide) smC smC_len (fun c=>smC_one c) wq.heap.size OW.out.size ([] ++ out.take j) _ (by rfl) R4.out _ _ _ [⟨x1,x2,x3,x4⟩] (by rfl) (R12.out.vrow smC_len rfl) (by first|(simp[maxLen];done)|(simp[maxLen];omega)) (by first|(simp;done)|(simp;omega)) ?_;intro vv13 v3 hown ho;have hoB:=OW.out.trans ho (fun x hx=>.inr (R4.out.block_ge x hx));go_wp2;simp only[nrm];refine⟨.inr hoB,fun w4 o2=>?_⟩;have R13:=hid (hown.kept o2);replace OW:=hid (hoB.nil_trans o2);clear ho hoB hown o2;refine yN [17] (by kernel_rfl) ?_;simp only[List.mem_cons,List.not_mem_nil,or_false,forall_eq];refine wpOp_one rfl ?_;refine wpList_app rfl _ _ 133 rfl 124 smZ 4 32 Tryz.underlying133 sm_info rfl (by decide) smC smC_len (fun c=>smC_one c) wq.heap.size OW.out.size ([] ++ out.take j ++ [⟨x1,x2,x3,x4⟩]) _ (by rfl) R13.out _ _ _ (out.drop j) (by rfl) (VD.out.kept OW.out) (by first|(simp[maxLen];done)|(simp[maxLen];omega)) (by first|(simp;done)|(simp;omega)) ?_;intro vv17 v3 hown ho;have hoB:=OW.out.trans ho (fun x hx=>.inr (R13.out.block_ge x hx));go_wp2;simp only[nrm];refine⟨.inr hoB,fun w5 o2=>?_⟩;have R17:=hid (hown.kept o2);replace OW:=hid (hoB.nil_trans o2);clear ho hoB hown o2;refine yN [18] (by kernel_rfl) ?_;simp only[List.mem_cons,List.not_mem_nil,or_false,forall_eq];refine wpOp_one rfl ?_;go_wp2;simp only[nrm];refine⟨.inr OW.out,fun w6 o2=>?_⟩;replace OW:=hid (OW.out.nil_trans o2);replace R17:=hid (R17.out.kept o2);clear o2;unfold wpY
      rotate_left 1
      focus
       refine wpOp_one rfl ?_;go_wp2;simp only[nrm];refine⟨.inr (OW.out.alloc _),fun w2 o2=>?_⟩;have R12:=hid ((row_lit (enc:=smC) (s:=4) (e:=124) (w:=w1) (l:=[⟨x1,x2,x3,x4⟩]) smC_len rfl (by simp[maxLen])).kept o2 (by simp));have HB12:Hid (wq.heap.size≤w1.heap.size):=hid OW.out.size;have HN12:Hid (g0≠w1.heap.size):=hid (by have:=R0.out.lt;omega);replace OW:=hid ((OW.out.alloc _).nil_trans o2);replace R0:=hid (R0.out.kept (((Only.refl [] w1).alloc _).nil_trans o2) (by simp));clear o2;generalize w1.heap.size=g12 at *;refine yN [4] (by kernel_rfl) ?_;simp only[List.mem_cons,List.not_mem_nil,or_false,forall_eq];have D0:Own smC 124 4 wq.heap.size w2 (.slice (some ⟨g0,0,none⟩) (List.length (α:=Smp) []) (List.length (α:=Smp) [])) []:=.inr ⟨_,_,rfl,HB0.out,R0.out⟩;refine wpOp_one rfl ?_;refine wpList_app rfl _ _ 133 rfl 124 smZ 4 32 Tryz.underlying133 sm_info rfl (by decide) smC smC_len (fun c=>smC_one c) wq.heap.size OW.out.size [] _ (by rfl) D0 _ _ _ (out.take j) (by rfl) (VT.out.kept OW.out) (by first|(simp[maxLen];done)|(simp[maxLen];omega)) (by first|(simp;done)|(simp;omega)) ?_;intro vv4 v3 hown ho;have hoB:=OW.out.trans ho (fun x hx=>.inr (D0.block_ge x hx));go_wp2;simp only[nrm];refine⟨.inr hoB,fun w3 o2=>?_⟩;have R4:=hid (hown.kept o2);replace R12:=hid ((R12.out.kept ho (by simp[Value.ownBlock];first|exact HN12.out|exact HN12.out.symm|exact HN0.out|exact HN0.out.symm)).kept o2 (by simp));replace OW:=hid (hoB.nil_trans o2);clear ho hoB hown o2;refine yN [13] (by kernel_rfl) ?_;simp only[List.mem_cons,List.not_mem_nil,or_false,forall_eq];refine wpOp_one rfl ?_;refine wpList_app rfl _ _ 133 rfl 124 smZ 4 32 Tryz.underlying133 sm_info rfl (by decide) smC smC_len (fun c=>smC_one c) wq.heap.size OW.out.size ([] ++ out.take j) _ (by rfl) R4.out _ _ _ [⟨x1,x2,x3,x4⟩] (by rfl) (R12.out.vrow smC_len rfl) (by first|(simp[maxLen];done)|(simp[maxLen];omega)) (by first|(simp;done)|(simp;omega)) ?_;intro vv13 v3 hown ho;have hoB:=OW.out.trans ho (fun x hx=>.inr (R4.out.block_ge x hx));go_wp2;simp only[nrm];refine⟨.inr hoB,fun w4 o2=>?_⟩;have R13:=hid (hown.kept o2);replace OW:=hid (hoB.nil_trans o2);clear ho hoB hown o2;refine yN [17] (by kernel_rfl) ?_;simp only[List.mem_cons,List.not_mem_nil,or_false,forall_eq];refine wpOp_one rfl ?_;refine wpList_app rfl _ _ 133 rfl 124 smZ 4 32 Tryz.underlying133 sm_info rfl (by decide) smC smC_len (fun c=>smC_one c) wq.heap.size OW.out.size ([] ++ out.take j ++ [⟨x1,x2,x3,x4⟩]) _ (by rfl) R13.out _ _ _ (out.drop j) (by rfl) (VD.out.kept OW.out) (by first|(simp[maxLen];done)|(simp[maxLen];omega)) (by first|(simp;done)|(simp;omega)) ?_;intro vv17 v3 hown ho;have hoB:=OW.out.trans ho (fun x hx=>.inr (R13.out.block_ge x hx));go_wp2;simp only[nrm];refine⟨.inr hoB,fun w5 o2=>?_⟩;have R17:=hid (hown.kept o2);replace OW:=hid (hoB.nil_trans o2);clear ho hoB hown o2;refine yN [18] (by kernel_rfl) ?_;simp only[List.mem_cons,List.not_mem_nil,or_false,forall_eq];refine wpOp_one rfl ?_;go_wp2;simp only[nrm];refine⟨.inr OW.out,fun w6 o2=>?_⟩;replace OW:=hid (OW.out.nil_trans o2);replace R17:=hid (R17.out.kept o2);clear o2;unfold wpY
      rotate_left 1
     rotate_left 2
     focus
      refine wpOp_one rfl ?_;go_wp2;simp only[nrm];refine⟨.inr (OW.out.alloc _),fun w1 o2=>?_⟩;have R12:=hid ((row_lit (enc:=smC) (s:=4) (e:=124) (w:=w0) (l:=[⟨x1,x2,x3,x4⟩]) smC_len rfl (by simp[maxLen])).kept o2 (by simp));have HB12:Hid (wq.heap.size≤w0.heap.size):=hid OW.out.size;replace OW:=hid ((OW.out.alloc _).nil_trans o2);clear o2;generalize w0.heap.size=g12 at *;refine yN [0] (by kernel_rfl) ?_;simp only[List.mem_cons,List.not_mem_nil,or_false,forall_eq];refine wpOp_one rfl ?_;go_wp2;simp only[nrm];refine⟨.inr (OW.out.alloc _),fun w2 o2=>?_⟩;have R0:=hid ((row_lit (enc:=smC) (s:=4) (e:=124) (w:=w1) (l:=[]) smC_len rfl (by simp[maxLen])).kept o2 (by simp));have HB0:Hid (wq.heap.size≤w1.heap.size):=hid OW.out.size;have HN0:Hid (g12≠w1.heap.size):=hid (by have:=R12.out.lt;omega);replace OW:=hid ((OW.out.alloc _).nil_trans o2);replace R12:=hid (R12.out.kept (((Only.refl [] w1).alloc _).nil_trans o2) (by simp));clear o2;generalize w1.heap.size=g0 at *;refine yN [4] (by kernel_rfl) ?_;simp only[List.mem_cons,List.not_mem_nil,or_false,forall_eq];have D0:Own smC 124 4 wq.heap.size w2 (.slice (some ⟨g0,0,none⟩) (List.length (α:=Smp) []) (List.length (α:=Smp) [])) []:=.inr ⟨_,_,rfl,HB0.out,R0.out⟩;refine wpOp_one rfl ?_;refine wpList_app rfl _ _ 133 rfl 124 smZ 4 32 Tryz.underlying133 sm_info rfl (by decide) smC smC_len (fun c=>smC_one c) wq.heap.size OW.out.size [] _ (by rfl) D0 _ _ _ (out.take j) (by rfl) (VT.out.kept OW.out) (by first|(simp[maxLen];done)|(simp[maxLen];omega)) (by first|(simp;done)|(simp;omega)) ?_;intro vv4 v3 hown ho;have hoB:=OW.out.trans ho (fun x hx=>.inr (D0.block_ge x hx));go_wp2;simp only[nrm];refine⟨.inr hoB,fun w3 o2=>?_⟩;have R4:=hid (hown.kept o2);replace R12:=hid ((R12.out.kept ho (by simp[Value.ownBlock];first|exact HN12.out|exact HN12.out.symm|exact HN0.out|exact HN0.out.symm)).kept o2 (by simp));replace OW:=hid (hoB.nil_trans o2);clear ho hoB hown o2;refine yN [13] (by kernel_rfl) ?_;simp only[List.mem_cons,List.not_mem_nil,or_false,forall_eq];refine wpOp_one rfl ?_;refine wpList_app rfl _ _ 133 rfl 124 smZ 4 32 Tryz.underlying133 sm_info rfl (by decide) smC smC_len (fun c=>smC_one c) wq.heap.size OW.out.size ([] ++ out.take j) _ (by rfl) R4.out _ _ _ [⟨x1,x2,x3,x4⟩] (by rfl) (R12.out.vrow smC_len rfl) (by first|(simp[maxLen];done)|(simp[maxLen];omega)) (by first|(simp;done)|(simp;omega)) ?_;intro vv13 v3 hown ho;have hoB:=OW.out.trans ho (fun x hx=>.inr (R4.out.block_ge x hx));go_wp2;simp only[nrm];refine⟨.inr hoB,fun w4 o2=>?_⟩;have R13:=hid (hown.kept o2);replace OW:=hid (hoB.nil_trans o2);clear ho hoB hown o2;refine yN [17] (by kernel_rfl) ?_;simp only[List.mem_cons,List.not_mem_nil,or_false,forall_eq];refine wpOp_one rfl ?_;refine wpList_app rfl _ _ 133 rfl 124 smZ 4 32 Tryz.underlying133 sm_info rfl (by decide) smC smC_len (fun c=>smC_one c) wq.heap.size OW.out.size ([] ++ out.take j ++ [⟨x1,x2,x3,x4⟩]) _ (by rfl) R13.out _ _ _ (out.drop j) (by rfl) (VD.out.kept OW.out) (by first|(simp[maxLen];done)|(simp[maxLen];omega)) (by first|(simp;done)|(simp;omega)) ?_;intro vv17 v3 hown ho;have hoB:=OW.out.trans ho (fun x hx=>.inr (R13.out.block_ge x hx));go_wp2;simp only[nrm];refine⟨.inr hoB,fun w5 o2=>?_⟩;have R17:=hid (hown.kept o2);replace OW:=hid (hoB.nil_trans o2);clear ho hoB hown o2;refine yN [18] (by kernel_rfl) ?_;simp only[List.mem_cons,List.not_mem_nil,or_false,forall_eq];refine wpOp_one rfl ?_;go_wp2;simp only[nrm];refine⟨.inr OW.out,fun w6 o2=>?_⟩;replace OW:=hid (OW.out.nil_trans o2);replace R17:=hid (R17.out.kept o2);clear o2;unfold wpY
     rotate_left 1
    all_goals
     have HN:=R17.out;rw[List.nil_append,show out.take j ++ [⟨x1,x2,x3,x4⟩] ++ out.drop j=out.take j ++ ⟨x1,x2,x3,x4⟩::out.drop j by simp,←HRES.out] at HN;have HN:=hid HN;have OE:=hid (OO.out.nil_trans (OQ.out.nil_trans OW.out));first|(have e:=HI0.out;subst e)|skip
     go_wp2;go_roundw
     case rel=>exact⟨_,Nat.succ_le_of_lt HLT.out,by go_num,HN.out.base OB.out,OE.out⟩
     case measure=>first|(have:=HLT.out;simp[intOf];done)|(have:=HLT.out;simp[intOf];omega)
  ·obtain rfl:i=l.length:=by omega
   rw[List.take_length] at hown;have HN:=hid hown;have c:=HX0.out wr ho;have m:=mm0 wr [];have k:=m.out.k;go_wp2_with (first|((with_reducible refine wU ?_);clear k m;intro w m k)|((with_reducible refine lE (fun w o g k K hK=>⟨rfl,?_⟩));simp[results,Tryz.results158,go_sem];refine hK _ ?_;exact⟨⟨_,rfl,HN.out.kept o⟩,OO.out.nil_trans o⟩))
end
end Go.Proofs.YtedgpfgccpnjnaaGreat
