/- Ip Io -/
import Derived.Test.YtppjhbjmfkiejaaGreatFId
import Derived.Test.YtppjhbjmfkiejaaGreatFIn
namespace Go.Proofs.YtppjhbjmfkiejaaGreat
set_option linter.all false
open List (getD_cons_succ getD_cons_zero map_cons map_nil mem_cons mem_singleton not_mem_nil)
set_option maxRecDepth 100000
set_option maxHeartbeats 8000000
open Go.RowKit Go.Sort
section
theorem bnd_ge {x:lI} (h:bM ⟨x.lo,x.hi⟩=true):0<=rV x:=by
 unfold bM at h;have:=of_decide_eq_true h;dsimp only at this;unfold rV;omega
theorem err_bnd {x:lI} (h0:x.lo<=x.at_) (h1:x.at_<=x.hi):x.clk-x.at_<=rV x/\ -(x.clk-x.at_)<=rV x:=by
 unfold rV;omega
theorem QS:∀ (l:List lI) (b:Bool) (i:Nat) (h:i<l.length),∃ k,(J9 b l)[i]? = some ⟨(l[i]).at_,k,rV l[i]⟩
 | [],_,_,h=>absurd h (Nat.not_lt_zero _)
 | x::r,b,0,_=>⟨_,rfl⟩
 |x::r,b,i+1,h=>by
  obtain⟨k,hk⟩:=QS r true i (by simpa using h);exact⟨k,hk⟩
theorem EX {l:List lI} {n:Int} {i:Nat} (h:i<l.length):(l.take (i+1)).filter (fun x=>x.nd == n)=(l.take i).filter (fun x=>x.nd == n) ++ (if l[i].nd=n then [l[i]] else []):=by
 rw[eH l h,List.filter_append];congr 1
 by_cases hn:l[i].nd=n
 ·rw[if_pos hn];simp[hn]
 ·rw[if_neg hn];simp[hn]
theorem Z9 {l:List lI} {n:Int} {i:Nat} (h:i<l.length) (hn:l[i].nd=n):(l.filter (fun x=>x.nd == n))[((l.take i).filter (fun x=>x.nd == n)).length]? = some l[i]:=by
 have hs:=EX (n:=n) h;rw[if_pos hn] at hs
 have hd:l.filter (fun x=>x.nd == n)=(l.take (i+1)).filter (fun x=>x.nd == n) ++ (l.drop (i+1)).filter (fun x=>x.nd == n):=by
  rw[<-List.filter_append,List.take_append_drop]
 rw[hd,hs,List.append_assoc,List.getElem?_append_right (Nat.le_refl _),Nat.sub_self];rfl
end
section
open Go.Lib (hid)
def exW:lI:=⟨2000,1,2000,2500,0,900,3100,0,0⟩
theorem exW_of:LV eO [exW] 1=0:=by kernel_rfl
theorem exW_nt:J9 false ([exW].filter (fun x=>x.nd == 1))=[⟨2000,1,1600⟩]:=by rfl
theorem pErrEx {w:World} (s:dU) (hs:s.Ok w) (hsc:s.sc=eO) {b:Nat} (hb:w.heap[b]? = some (.cells (rQ exW).toArray 41 (0,0))) :
  Calls Tryz.prog 18 #[fG s,.slice (some ⟨b,0,none⟩) 1 1,.int .i64 1] w fun e w'=>∃ v,e=.returned (.tuple #[v,.int .i64 0])/\Own C9 3 1 w.heap.size w' v [500]/\Only [] w w':=by
 have h:=QJ s hs (l:=[exW]) (row_one iQ hb) (by decide) 1;rw[hsc,exW_of,if_pos rfl] at h;exact h
theorem XQ {w:World} (s:dU) (hs:s.Ok w) (hsc:s.sc=eO) {b:Nat} (hb:w.heap[b]? = some (.cells (rQ exW).toArray 41 (0,0))) :
  Calls Tryz.prog 19 #[fG s,.slice (some ⟨b,0,none⟩) 1 1,.int .i64 1,.agg #[.int .i64 1599,.int .i64 0,.int .i64 1,.int .i64 1,.int .i64 0]] w fun e w'=>∃ v,e=.returned (.tuple #[v,.int .i64 0])/\Own ntC 74 3 w.heap.size w' v [⟨2000,1,1600⟩]/\Only [] w w':=by
 have h:=XR s hs (l:=[exW]) (row_one iQ hb) (by decide) 1 1599 0 (by decide) (by decide) (by decide) (fun x hx=>by
  obtain rfl:=mem_singleton.1 (List.mem_filter.1 hx).1;decide)
 rw[hsc,exW_of,if_pos rfl,exW_nt] at h;exact h
theorem wE {α:Type} {enc:α->List Value} {s:Nat} {w:World} {p:Option Addr} {n cap:Nat} {x:α} {r:List α} (hv:aR enc s w p n cap (x::r)) :
  ∃ b off,p=some ⟨b,off,none⟩/\∀ w',Only [] w w'->b<w'.heap.size/\∀ (j:Nat) u,(enc x)[j]? = some u->w'.cell? ⟨b,off+j,none⟩=some u:=by
 obtain⟨b,off,hp,hb,hc⟩:=hv.cell 0 x rfl;refine⟨b,off,hp,fun w' ho=>⟨Nat.lt_of_lt_of_le hb ho.size,fun j u hj=>?_⟩⟩;rw[ho.cell hb (by simp)];have:=hc j u hj;rwa [Nat.zero_mul,Nat.zero_add] at this
theorem vV {P:Program} {Q:Exit->Act->World->Prop} {c:Code} {a:Act} {w:World} {F:Value->Nat->Value->World->Prop} {A:Value->Nat->Value->Act} (h:c.wp P (fun e a' w'=>e=.normal/\∃ x y z,a'=A x y z/\F x y z w') a w) (k:∀ x y z w',F x y z w'->Q .normal (A x y z) w'):c.wp P Q a w:=
 Code.wp_mono (fun e a' w' ⟨h1,x,y,z,h2,h3⟩=>by subst h1;subst h2;exact k x y z w' h3) h
theorem Y0 {w:World} {R:List (Int × Int)} (hR:sD w R) :
  Calls Tryz.prog 15 #[] w fun e w'=>e=.returned (.bool true)/\Only [] w w':=by
 have HR:=hid hR;clear hR;obtain⟨wo,hwo⟩:∃ wo:World,wo=w:=⟨_,rfl⟩;subst hwo;have m:=bJ wo [];have k:=m.out.k;go_enter Tryz.func15,Tryz.ntmps15
 go_wp2_with ((with_reducible first|refine cU ?_|refine wU ?_);clear k m;intro w m k)
 have HB1:=hid (fun w' o=>m.back (w':=w') o);obtain⟨wa,hwa⟩:∃ wa:World,wa=w:=⟨_,rfl⟩;subst hwa;replace m:Mm wa [wo.heap.size] wa _:=m.re;obtain⟨wr,hwr⟩:∃ wr:World,wr=wa:=⟨_,rfl⟩;have HMM:Hid (Mem wa [wo.heap.size] wr [⟨wo.heap.size,[.int .i64 2000,.int .i64 1,.int .i64 2000,.int .i64 2500,.int .i64 0,.int .i64 900,.int .i64 3100,.int .i64 0,.int .i64 0],41,true⟩]):=hid (by rw[hwr];exact m.out);have HLT:=hid (aD m.out.got.1);rw[<-hwr];clear k m hwr;apply vV (F:=fun _ _ v w'=>(∃ B,wo.heap.size<B/\Own C9 3 1 B w' v [500])/\Mm wa [wo.heap.size] w' [⟨wo.heap.size,[.int .i64 2000,.int .i64 1,.int .i64 2000,.int .i64 2500,.int .i64 0,.int .i64 900,.int .i64 3100,.int .i64 0,.int .i64 0],41,true⟩])
 focus
  have m:Mm _ _ wr _:=⟨HMM.out⟩;have k:=m.out.k;refine rY (id:=2) [1] [] [7,8] 8 (by kernel_rfl) (by kernel_rfl) ?_;simp only[pick,map_cons,map_nil,getD_cons_succ,getD_cons_zero]
  (repeat (first|(refine aO (fun K hK=>?_);go_simp;refine hK _ ?_;clear hK K)));refine aP ?_;(repeat (refine aI (fun K hK=>?_);go_simp;refine hK _ ?_;clear hK K));refine aJ ?_
  clear k m;intro w oW m k;iterate 2 all_goals ((first|refine yR [0,2] oW ?_|refine yR [0] oW ?_|refine yR [2] oW ?_);clear k m;intro w oN m k;replace oW:=oW.aA oN;(try replace HS:=hid (HS.out.kept oN));(try replace HNB:=hid (oN.got HNB.out (by simp)));clear oN;simp only[mem_cons,not_mem_nil,or_false,forall_eq_or_imp,forall_eq];(repeat' with_reducible refine And.intro ?_ ?_);all_goals (first|((show wpOp _ _ _ 0 _ _ _);refine aC rfl ?_;go_wp2_with fail;refine (GH _).mono ?_;rintro r w2 ⟨s,rfl,hs,hsc,o2⟩;replace m:Mm _ _ w2 _:=⟨m.out.call o2⟩;replace oW:=oW.aA o2;(try replace HNB:=hid (o2.got HNB.out (by simp)));clear k;have k:=m.out.k;have HS:=hid hs;have HSC:=hid hsc;clear hs hsc o2;go_wp2;simp only[aY])|((show wpOp _ _ _ 2 _ _ _);refine aC rfl ?_;go_wp2;simp only[aY];obtain⟨nb,hn⟩:∃ n,n=w.heap.size:=⟨_,rfl⟩;refine yA ?_;clear k m;intro w oN m k;replace oW:=oW.aA oN;(try replace HS:=hid (HS.out.kept oN));(try replace HNB:=hid (oN.got HNB.out (by simp)));clear oN;rw[<-hn] at m |-;clear hn k;have HNB:=hid (gB (w:=w) (b:=nb));replace m:=m.tl;have k:=m.out.k)))
  all_goals
   refine yR [3] oW ?_;clear k m;intro w oN m k;replace oW:=oW.aA oN;(try replace HS:=hid (HS.out.kept oN));(try replace HNB:=hid (oN.got HNB.out (by simp)));clear oN;simp only[mem_cons,not_mem_nil,or_false,forall_eq];refine aC rfl ?_;go_wp2_with fail
   obtain⟨vs,hvs⟩:∃ z,z=fG s:=⟨_,rfl⟩;have hlt:=aD m.out.got.1;refine (pErrEx s HS.out HSC.out HNB.out).mono ?_;rintro r w3 ⟨v,rfl,hown,o3⟩;rw[<-hvs];clear hvs;replace m:Mm _ _ w3 _:=⟨m.out.call o3⟩;replace oW:=oW.aA o3;clear k o3;have k:=m.out.k;go_wp2;simp only[aY];refine yP [4,5,6] 2 rfl (by kernel_rfl) ?_;simp only[pick,map_cons,map_nil,getD_cons_succ,getD_cons_zero]
   (repeat (refine aI (fun K hK=>?_);go_simp;refine hK _ ?_;clear hK K))
   refine aJ ?_;refine yM [7] (by kernel_rfl) rfl (.inr oW) ?_;clear k m;intro w oN m k;replace oW:=oW.aA oN;replace hown:=hown.kept oN;clear oN;simp only[mem_cons,not_mem_nil,or_false,forall_eq];refine aC rfl ?_;go_wp2;simp only[aY];refine yM [8] (by kernel_rfl) rfl (.inl (aQ (by kernel_rfl))) ?_;clear k m;intro w oN m k;replace oW:=oW.aA oN;replace hown:=hown.kept oN;clear oN;simp only[mem_cons,not_mem_nil,or_false,forall_eq];refine aC rfl ?_;go_wp2;simp only[aY];refine yD (by kernel_rfl) (.inl (aQ (by kernel_rfl))) ?_;intro w9 o9;exact⟨rfl,vs,nb,v,rfl,⟨_,hlt,hown.kept o9⟩,⟨m.out.call o9⟩⟩
 intro v1 nb1 v w ⟨⟨B,hB,hown⟩,m⟩;have k:=m.out.k;have HE1:=hid (fun w' (o:Only [wo.heap.size] w w')=>hown.jB o (fun q hq=>by rw[mem_singleton.1 hq];exact hB));have HC1:=hid (fun w' (o:Only [wo.heap.size] w w')=>HB1.out w' (m.out.only.trans o (fun x hx=>.inl hx)));clear hB hown HB1 HMM;obtain⟨wb,hwb⟩:∃ wb:World,wb=w:=⟨_,rfl⟩;subst hwb;clear k;replace m:Mm wb [wo.heap.size] wb _:=m.re;have k:=m.out.k;go_wp2_with ((with_reducible first|refine cU ?_|refine wU ?_);clear k m;intro w m k)
 obtain⟨wr,hwr⟩:∃ wr:World,wr=wb:=⟨_,rfl⟩;have HMM:Hid (Mem wb [wo.heap.size] wr [⟨wo.heap.size,[.int .i64 2000,.int .i64 1,.int .i64 2000,.int .i64 2500,.int .i64 0,.int .i64 900,.int .i64 3100,.int .i64 0,.int .i64 0],41,true⟩]):=hid (by rw[hwr];exact m.out);rw[<-hwr];clear k m hwr;apply vV (F:=fun _ _ v w'=>(∃ B,wo.heap.size<B/\Own ntC 74 3 B w' v [⟨2000,1,1600⟩])/\Mm wb [wo.heap.size] w' [⟨wo.heap.size,[.int .i64 2000,.int .i64 1,.int .i64 2000,.int .i64 2500,.int .i64 0,.int .i64 900,.int .i64 3100,.int .i64 0,.int .i64 0],41,true⟩])
 focus
  have m:Mm _ _ wr _:=⟨HMM.out⟩;have k:=m.out.k;refine rY (id:=3) [1,3] [] [8,9] 8 (by kernel_rfl) (by kernel_rfl) ?_;simp only[pick,map_cons,map_nil,getD_cons_succ,getD_cons_zero]
  (repeat (first|(refine aO (fun K hK=>?_);go_simp;refine hK _ ?_;clear hK K)));refine aP ?_;(repeat (refine aI (fun K hK=>?_);go_simp;refine hK _ ?_;clear hK K));refine aJ ?_
  clear k m;intro w oW m k;iterate 2 all_goals ((first|refine yR [0,2] oW ?_|refine yR [0] oW ?_|refine yR [2] oW ?_);clear k m;intro w oN m k;replace oW:=oW.aA oN;(try replace HS:=hid (HS.out.kept oN));(try replace HNB:=hid (oN.got HNB.out (by simp)));clear oN;simp only[mem_cons,not_mem_nil,or_false,forall_eq_or_imp,forall_eq];(repeat' with_reducible refine And.intro ?_ ?_);all_goals (first|((show wpOp _ _ _ 0 _ _ _);refine aC rfl ?_;go_wp2_with fail;refine (GH _).mono ?_;rintro r w2 ⟨s,rfl,hs,hsc,o2⟩;replace m:Mm _ _ w2 _:=⟨m.out.call o2⟩;replace oW:=oW.aA o2;(try replace HNB:=hid (o2.got HNB.out (by simp)));clear k;have k:=m.out.k;have HS:=hid hs;have HSC:=hid hsc;clear hs hsc o2;go_wp2;simp only[aY])|((show wpOp _ _ _ 2 _ _ _);refine aC rfl ?_;go_wp2;simp only[aY];obtain⟨nb,hn⟩:∃ n,n=w.heap.size:=⟨_,rfl⟩;refine yA ?_;clear k m;intro w oN m k;replace oW:=oW.aA oN;(try replace HS:=hid (HS.out.kept oN));(try replace HNB:=hid (oN.got HNB.out (by simp)));clear oN;rw[<-hn] at m |-;clear hn k;have HNB:=hid (gB (w:=w) (b:=nb));replace m:=m.tl;have k:=m.out.k)))
  all_goals
   refine yR [4] oW ?_;clear k m;intro w oN m k;replace oW:=oW.aA oN;(try replace HS:=hid (HS.out.kept oN));(try replace HNB:=hid (oN.got HNB.out (by simp)));clear oN;simp only[mem_cons,not_mem_nil,or_false,forall_eq];refine aC rfl ?_;go_wp2_with fail
   obtain⟨vs,hvs⟩:∃ z,z=fG s:=⟨_,rfl⟩;have hlt:=aD m.out.got.1;refine (XQ s HS.out HSC.out HNB.out).mono ?_;rintro r w3 ⟨v,rfl,hown,o3⟩;rw[<-hvs];clear hvs;replace m:Mm _ _ w3 _:=⟨m.out.call o3⟩;replace oW:=oW.aA o3;clear k o3;have k:=m.out.k;go_wp2;simp only[aY];refine yP [5,6,7] 2 rfl (by kernel_rfl) ?_;simp only[pick,map_cons,map_nil,getD_cons_succ,getD_cons_zero]
   (repeat (refine aI (fun K hK=>?_);go_simp;refine hK _ ?_;clear hK K))
   refine aJ ?_;refine yM [8] (by kernel_rfl) rfl (.inr oW) ?_;clear k m;intro w oN m k;replace oW:=oW.aA oN;replace hown:=hown.kept oN;clear oN;simp only[mem_cons,not_mem_nil,or_false,forall_eq];refine aC rfl ?_;go_wp2;simp only[aY];refine yM [9] (by kernel_rfl) rfl (.inl (aQ (by kernel_rfl))) ?_;clear k m;intro w oN m k;replace oW:=oW.aA oN;replace hown:=hown.kept oN;clear oN;simp only[mem_cons,not_mem_nil,or_false,forall_eq];refine aC rfl ?_;go_wp2;simp only[aY];refine yD (by kernel_rfl) (.inl (aQ (by kernel_rfl))) ?_;intro w9 o9;exact⟨rfl,vs,nb,v,rfl,⟨_,hlt,hown.kept o9⟩,⟨m.out.call o9⟩⟩
 intro v2 nb2 y w ⟨⟨B,hB,hown⟩,m⟩;have HN2:=hid (fun w' (o:Only [wo.heap.size] w w')=>hown.jB o (fun q hq=>by rw[mem_singleton.1 hq];exact hB));have HE2:=hid (fun w' (o:Only [wo.heap.size] w w')=>HE1.out w' (m.out.only.trans o (fun x hx=>.inl hx)));have HC2:=hid (fun w' (o:Only [wo.heap.size] w w')=>HC1.out w' (m.out.only.trans o (fun x hx=>.inl hx)));clear hB hown HE1 HC1 HMM;obtain⟨wc,hwc⟩:∃ wc:World,wc=w:=⟨_,rfl⟩;subst hwc;replace m:Mm wc [wo.heap.size] wc _:=m.re;have k:=m.out.k;go_wp2_with ((with_reducible first|refine cU ?_|refine wU ?_);clear k m;intro w m k)
 obtain⟨wr,hwr⟩:∃ wr:World,wr=w:=⟨_,rfl⟩;subst hwr;have HMM:=hid m.out;clear k m;apply vV (F:=fun _ _ v w'=>(∃ B,Own fdC 99 3 B w' v [⟨1,1,0⟩,⟨5,1,0⟩])/\Mm wc [wo.heap.size] w' [⟨wo.heap.size,[.int .i64 3101,.int .i64 1,.int .i64 2000,.int .i64 2500,.int .i64 0,.int .i64 900,.int .i64 3100,.int .i64 0,.int .i64 0],41,true⟩])
 focus
  have m:Mm _ _ wr _:=⟨HMM.out⟩;have k:=m.out.k;refine rY (id:=5) [2] [] [8,9] 9 (by kernel_rfl) (by kernel_rfl) ?_;simp only[pick,map_cons,map_nil,getD_cons_succ,getD_cons_zero]
  (repeat (first|(refine aO (fun K hK=>?_);go_simp;refine hK _ ?_;clear hK K)));refine aP ?_;(repeat (refine aI (fun K hK=>?_);go_simp;refine hK _ ?_;clear hK K));refine aJ ?_
  clear k m;intro w oW m k;iterate 3 all_goals ((first|refine yR [0,3] oW ?_|refine yR [1,3] oW ?_|refine yR [0] oW ?_|refine yR [1] oW ?_|refine yR [3] oW ?_);clear k m;intro w oN m k;replace oW:=oW.aA oN;(try replace HS:=hid (HS.out.kept oN));(try replace HNB:=hid (oN.got HNB.out (by simp)));clear oN;simp only[mem_cons,not_mem_nil,or_false,forall_eq_or_imp,forall_eq];(repeat' with_reducible refine And.intro ?_ ?_);all_goals (first|((show wpOp _ _ _ 0 _ _ _);refine aC rfl ?_;go_wp2_with fail;refine (GH _).mono ?_;rintro r w2 ⟨s,rfl,hs,hsc,o2⟩;replace m:Mm _ _ w2 _:=⟨m.out.call o2⟩;replace oW:=oW.aA o2;(try replace HNB:=hid (o2.got HNB.out (by simp)));clear k;have k:=m.out.k;have HS:=hid hs;have HSC:=hid hsc;clear hs hsc o2;go_wp2;simp only[aY])|((show wpOp _ _ _ 1 _ _ _);refine aC rfl ?_;go_wp2_with fail;refine (pConf59 _).mono ?_;rintro r w2 ⟨rfl,oN⟩;replace m:Mm _ _ w2 _:=⟨m.out.call oN⟩;replace oW:=oW.aA oN;(try replace HS:=hid (HS.out.kept oN));(try replace HNB:=hid (oN.got HNB.out (by simp)));clear k oN;have k:=m.out.k;go_wp2;simp only[aY])|((show wpOp _ _ _ 3 _ _ _);refine aC rfl ?_;go_wp2;simp only[aY];obtain⟨nb,hn⟩:∃ n,n=w.heap.size:=⟨_,rfl⟩;refine yA ?_;clear k m;intro w oN m k;replace oW:=oW.aA oN;(try replace HS:=hid (HS.out.kept oN));(try replace HNB:=hid (oN.got HNB.out (by simp)));clear oN;rw[<-hn] at m |-;clear hn k;have HNB:=hid (gB (w:=w) (b:=nb));replace m:=m.tl;have k:=m.out.k)))
  all_goals
   refine yR [4] oW ?_;clear k m;intro w oN m k;replace oW:=oW.aA oN;(try replace HS:=hid (HS.out.kept oN));(try replace HNB:=hid (oN.got HNB.out (by simp)));clear oN;simp only[mem_cons,not_mem_nil,or_false,forall_eq];refine aC rfl ?_;go_wp2_with fail
   obtain⟨vs,hvs⟩:∃ z,z=fG s:=⟨_,rfl⟩;have hlt:=aD m.out.got.1;refine (YD s HS.out HSC.out (HR.out.kept (HC2.out _ m.out.only)) (row_one iQ HNB.out)).mono ?_;rintro r w3 ⟨⟨v,B,rfl,hown⟩,o3⟩;rw[<-hvs];clear hvs;replace m:Mm _ _ w3 _:=⟨m.out.call o3⟩;replace oW:=oW.aA o3;clear k o3;have k:=m.out.k;go_wp2;simp only[aY];refine yP [5,6,7] 2 rfl (by kernel_rfl) ?_;simp only[pick,map_cons,map_nil,getD_cons_succ,getD_cons_zero]
   (repeat (refine aI (fun K hK=>?_);go_simp;refine hK _ ?_;clear hK K))
   refine aJ ?_;refine yM [8] (by kernel_rfl) rfl (.inr oW) ?_;clear k m;intro w oN m k;replace oW:=oW.aA oN;replace hown:=hown.kept oN;clear oN;simp only[mem_cons,not_mem_nil,or_false,forall_eq];refine aC rfl ?_;go_wp2;simp only[aY];refine yM [9] (by kernel_rfl) rfl (.inl (aQ (by kernel_rfl))) ?_;clear k m;intro w oN m k;replace oW:=oW.aA oN;replace hown:=hown.kept oN;clear oN;simp only[mem_cons,not_mem_nil,or_false,forall_eq];refine aC rfl ?_;go_wp2;simp only[aY];refine yD (by kernel_rfl) (.inl (aQ (by kernel_rfl))) ?_;intro w9 o9;exact⟨rfl,vs,nb,v,rfl,⟨_,hown.kept o9⟩,⟨m.out.call o9⟩⟩
 intro v3 nb3 z w ⟨⟨B,hown⟩,m⟩;have OX:=hid (HC2.out w m.out.only);obtain⟨p1,c1,rfl,hv1⟩:=(HE2.out w m.out.only).dI (show ∀ x,(C9 x).length=1 from fun _=>rfl);obtain⟨p2,c2,rfl,hv2⟩:=(HN2.out w m.out.only).dI zB;obtain⟨p3,c3,rfl,hv3⟩:=hown.dI vI;obtain⟨b1,o1,rfl,z1⟩:=wE hv1;obtain⟨b2,o2,rfl,z2⟩:=wE hv2;obtain⟨b3,o3,rfl,z3⟩:=wE hv3;dsimp only[List.length_cons,List.length_nil]
 have HX:=hid (show ∀ w',Only [] w w'->b1<w'.heap.size/\w'.cell? ⟨b1,o1,none⟩=some (.int .i64 500)/\b2<w'.heap.size/\w'.cell? ⟨b2,o2,none⟩=some (.int .i64 2000)/\w'.cell? ⟨b2,o2+1,none⟩=some (.int .i64 1)/\w'.cell? ⟨b2,o2+2,none⟩=some (.int .i64 1600)/\b3<w'.heap.size/\w'.cell? ⟨b3,o3,none⟩=some (.int .i64 1)/\w'.cell? ⟨b3,o3+1,none⟩=some (.int .i64 1)/\w'.cell? ⟨b3,o3+2,none⟩=some (.int .i64 0) from fun w' o =>
  ⟨(z1 w' o).1,(z1 w' o).2 0 _ rfl,(z2 w' o).1,(z2 w' o).2 0 _ rfl,(z2 w' o).2 1 _ rfl,(z2 w' o).2 2 _ rfl,(z3 w' o).1,(z3 w' o).2 0 _ rfl,(z3 w' o).2 1 _ rfl,(z3 w' o).2 2 _ rfl⟩)
 clear m hv1 hv2 hv3 z1 z2 z3 hown HMM HE2 HN2 HC2 HR;have m:=bJ w [];have k:=m.out.k;have c:=HX.out w (Only.refl _ _);go_wp2_with (first|((with_reducible first|refine cU ?_|refine wU ?_);clear k m c;intro w m k;have c:=HX.out w m.out.only)|((with_reducible refine lE (fun w o g k K hK=>⟨rfl,?_⟩));simp[results,Tryz.results15,go_sem];refine hK _ ?_;exact⟨rfl,OX.out.aA o⟩))
end
end Go.Proofs.YtppjhbjmfkiejaaGreat
