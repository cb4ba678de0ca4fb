/- Ag1 AgM Ag2 AgH -/
import Derived.Test.YtppjhbjmfkiejaaGreatFV1
import Derived.Maps.OwnSet
namespace Go.Proofs.YtppjhbjmfkiejaaGreat
set_option maxRecDepth 100000
set_option maxHeartbeats 400000
open Go.RowKit
section
structure Ev where
 t:Int
 i:Int
 x:Int
abbrev IZ (e:Ev):List Value:=[.int .i64 e.t,.int .i64 e.i,.int .i64 e.x]
theorem cB (e:Ev):(IZ e).length=3:=rfl
abbrev VO (w:World) (g cap:Nat) (l:List Ev):Prop:=aO IZ 190 3 w g cap l
abbrev iE (w:World) (b n:Nat) (D:DataW Unit):Prop:=w.ownsMap Tryz.prog 3 (plainElem Tryz.prog 3) b n D
theorem iE.kept {w w':World} {S:List Nat} {b n:Nat} {D:DataW Unit} (h:iE w b n D) (ho:Oy S w w') (hn:b ∉ S):iE w' b n D:=by
 obtain⟨es,clock,hb,r⟩:=h;exact⟨es,clock,ho.got hb hn,r⟩
theorem Q9 (t i x:Int) (w:World) :
  Calls Tryz.prog 170 #[.agg #[.int .i64 t,.int .i64 i,.int .i64 x]] w fun e w'=>e=.returned (.int .i64 i)/\Below w.heap.size w w':=by
 go_enter Tryz.func170,Tryz.ntmps170
 go_wp2;go_ret
 exact⟨rfl,(Below.refl _ _).alloc (Nat.le_refl _) _⟩
theorem zM (q g cap n b i m:Nat) (t k x:Int) (qc:Array Value) (l:List Ev) (D:DataW Unit) (w:World)
   (hq:w.heap[q]? = some (.cells qc 164 (0,0))) (hq0:qc[0]? = some (.slice (some ⟨g,0,none⟩) n cap)) (hq1:qc[1]? = some (.map (some b)))
   (hqg:q≠g) (hrow:VO w g cap l) (hbg:b≠g) (hmap:iE w b m D) (hmm:m<maxLen) (hkw:(Lit.int .i64 k).wf=true) (hi:i<n) (hln:n=l.length) (hn:n<=9223372036854775807) :
    Calls Tryz.prog 97 #[.pointer (some ⟨q,0,none⟩),.int .i64 i,.agg #[.int .i64 t,.int .i64 k,.int .i64 x]] w fun e w'=>e=.returned (.tuple #[])/\VO w' g cap (l.set i ⟨t,k,x⟩)/\iE w' b (m+1) (D.put (.int .i64 k) (.lit (.int .i64 i)))/\Oy [g,b] w w':=by
 have hqs:=aF hq;have hgs:=hrow.lt;obtain⟨cur,hg,hcs,hlc,hcm,hct⟩:=hrow;have HQ:=aA hq;have HG:=aA hg;have HCS:=aA hcs;have HL:=aA hln;have HCT:=aA hct;have Hq0:=aA hq0;have Hq1:=aA hq1;clear hq hg hcs hln hct hq0 hq1;go_enter Tryz.func97,Tryz.ntmps97
 go_wp2;refine aG (G:=Code.wp _ _ _ _) ?_;intro w0 hb0 ho0 hs0;have d0:=(aC (ho0.got HQ.out (by simp)) 0).trans Hq0.out;have b0:=aC hb0 0;have b1:=aC hb0 1;have b2:=aC hb0 2;have HB:=aA hb0;clear hb0;have HS:=aA hs0;have hs0':w.heap.size<w0.heap.size:=by omega
 clear hs0;have hqs0:q<w0.heap.size:=by omega
 refine aP [0,1,2,3,4,5,6] [7] (by kernel_rfl) (by kernel_rfl) ?_;simp only[bV];iterate 7 (refine wpQuiet_step (fun K hK=>?_);go_simp;refine hK _ ?_;clear hK K)
 refine wpQuiet_nil ?_;intro w1 hw1;have ho1:=aN hw1;clear hw1;refine wpList_store_row rfl 190 _ _ rfl 3 (by kernel_rfl) g (i*3) rfl (.agg #[.int .i64 t,.int .i64 k,.int .i64 x]) rfl rfl rfl cur 190 (ho1.got (ho0.got HG.out (by simp)) (by simp)) (by have:=HL.out;have:=HCS.out;omega) ?_;intro w2 hg2 ho2 hs2;have d1:=(aC (ho2.got (ho1.got (ho0.got HQ.out (by simp)) (by simp)) (by simpa using hqg)) 1).trans Hq1.out;have hb2:=ho2.got (ho1.got HB.out (by simp)) (by simp;omega);have hqs2:q<w2.heap.size:=by have:=ho1.size;omega
 have hbs2:w.heap.size<w2.heap.size:=by have:=ho1.size;omega
 clear d0 b0 b1 b2;have b0:=aC hb2 0;have b1:=aC hb2 1;have b2:=aC hb2 2;have HB2:=aA hb2;clear hb2;have HG2:=aA hg2;clear hg2;have HS2:=aA hs2;clear hs2;go_wp2;refine aP [0,1,2,3,4,5,6,7] [8] (by kernel_rfl) (by kernel_rfl) ?_;simp only[bV];iterate 6 (refine wpQuiet_step (fun K hK=>?_);go_simp;refine hK _ ?_;clear hK K)
 refine gF rfl 170 #[.agg #[.int .i64 t,.int .i64 k,.int .i64 x]] (fun _=>by kernel_rfl) (.int .i64 k) (gL fun w' _=>Q9 t k x w') ?_;iterate 1 (refine wpQuiet_step (fun K hK=>?_);go_simp;refine hK _ ?_;clear hK K)
 refine wpQuiet_nil ?_;intro w3 hw3;have ho3:=aN hw3;clear hw3;have ho:=((((Oy.aB ho0 ho1).fB ho2).aB ho3));refine wpList_mapUpdate_own _ rfl _ _ _ 160 rfl 3 3 (Maps.int_keyed Tryz.underlying3) Tryz.underlying160 (plainElem Tryz.prog 3) b m D rfl ?_ ?_ _ _ (.int .i64 k) rfl rfl ?_ (.lit (.int .i64 i)) [] ?_ ?_
 ·exact iE.kept hmap ho (by simpa using hbg)
 ·exact hmm
 ·exact Maps.keyOf_int_mk Tryz.underlying3 hkw
 ·exact plainElem_int Tryz.underlying3 (WalkArith.wf_i64 (by omega))
 intro w4 hm4 hg4;go_wp2;go_end0
 have hrow':VO w3 g cap (l.set i ⟨t,k,x⟩):=aO.set cB (by have:=HL.out;omega) ⟨cur,HG.out,HCS.out,hlc,hcm,HCT.out⟩ HG.out (ho3.got HG2.out (by simp));have ho4:Oy [b] w3 w4:=(aR [b] w3).grown hg4 (by simp);refine⟨rfl,hrow'.kept ho4 (by simpa using hbg.symm),hm4,(ho.weak (by simp)).trans ho4 (by simp)⟩
end
def sw (l:List Ev) (i j:Nat):List Ev:=(l.set i (l.getD j ⟨0,0,0⟩)).set j (l.getD i ⟨0,0,0⟩)
theorem dF (l:List Ev) (i j:Nat):(sw l i j).length=l.length:=by simp[sw]
theorem RD {l:List Ev} {i:Nat} {e:Ev} (h:l[i]? = some e):l.getD i ⟨0,0,0⟩=e:=by simp[h]
theorem wS (l:List Ev) (i j k:Nat) (hi:i<l.length) (hj:j<l.length) :
  (sw l i j)[k]? = if k=j then l[i]? else if k=i then l[j]? else l[k]? :=by
 unfold sw;rw[List.getElem?_set,List.getElem?_set];by_cases h1:k=j
 ·subst h1;simp[hi,hj]
 ·by_cases h2:k=i
  ·subst h2
   simp[Ne.symm h1,h1,hi,hj]
  ·simp[h1,h2,Ne.symm h1,Ne.symm h2]
theorem isKey (k:Int):Go.WideAt.IsKeyLit (.int .i64 k):=trivial
theorem iP {a b:Int} (h:a≠b):Lit.int .i64 a≠Lit.int .i64 b:=fun e=>h (by injection e)
structure JI (D:DataW Unit) (l:List Ev):Prop where
 isMap:Maps.IsMap D
 at_:∀ (i:Nat) (e:Ev),l[i]? = some e->Maps.has D (.int .i64 e.i)=true/\D.atKey (.int .i64 e.i) (.lit (.int .i64 0))=.lit (.int .i64 i)
 none:∀ k:Int,(∀ e∈l,e.i≠k)->Maps.has D (.int .i64 k)=false
 wf:∀ e∈l,(Lit.int .i64 e.i).wf=true
theorem JI.apart {D:DataW Unit} {l:List Ev} (h:JI D l) {i j:Nat} {e f:Ev} (hi:l[i]? = some e) (hj:l[j]? = some f) (hne:i≠j):e.i≠f.i:=by
 intro he;have h1:=(h.at_ i e hi).2;have h2:=(h.at_ j f hj).2;rw[he,h2] at h1;injection h1 with h3
 injection h3 with _ h4
 omega
theorem CP {l:List Ev} {i j:Nat} (hi:i<l.length) (hj:j<l.length) {e:Ev}:e∈sw l i j↔e∈l:=by
 simp only[List.mem_iff_getElem?];constructor
 ·rintro⟨k,hk⟩
  rw[wS l i j k hi hj] at hk;split at hk
  ·exact⟨_,hk⟩
  ·split at hk
   ·exact⟨_,hk⟩
   ·exact⟨_,hk⟩
 ·rintro⟨k,hk⟩
  by_cases h1:k=i
  ·subst h1;exact⟨j,by rw[wS l k j j hi hj,if_pos rfl];exact hk⟩
  ·by_cases h2:k=j
   ·subst h2;refine⟨i,?_⟩
    rw[wS l i k i hi hj];by_cases h3:i=k
    ·exact absurd h3.symm h1
    ·rw[if_neg h3,if_pos rfl];exact hk
   ·exact⟨k,by rw[wS l i j k hi hj,if_neg h2,if_neg h1];exact hk⟩
theorem JI.sw {D:DataW Unit} {l:List Ev} (h:JI D l) {i j:Nat} {ei ej:Ev} (hi:l[i]? = some ei) (hj:l[j]? = some ej) :
  JI ((D.put (.int .i64 ej.i) (.lit (.int .i64 i))).put (.int .i64 ei.i) (.lit (.int .i64 j))) (sw l i j):=by
 have hil:i<l.length:=(List.getElem?_eq_some_iff.1 hi).1;have hjl:j<l.length:=(List.getElem?_eq_some_iff.1 hj).1;have hm1:Maps.IsMap (D.put (.int .i64 ej.i) (.lit (.int .i64 i))):=h.isMap.put _ _;refine⟨hm1.put _ _,?_,?_,?_⟩
 ·intro k e hk
  rw[wS l i j k hil hjl] at hk;by_cases h1:k=j
  ·subst h1
   rw[if_pos rfl,hi] at hk
   cases hk
   exact⟨Maps.has_put_same hm1 (isKey _) _,Maps.atKey_put_same hm1 (isKey _) _ _⟩
  ·rw[if_neg h1] at hk
   by_cases h2:k=i
   ·subst h2
    rw[if_pos rfl,hj] at hk
    cases hk
    have hne:=h.apart hj hi (Ne.symm h1)
    exact⟨by rw[Maps.has_put_other (iP hne)];exact Maps.has_put_same h.isMap (isKey _) _,
     by rw[Maps.atKey_put_other (iP hne)];exact Maps.atKey_put_same h.isMap (isKey _) _ _⟩
   ·rw[if_neg h2] at hk
    have n1:=h.apart hk hi h2;have n2:=h.apart hk hj h1;rw[Maps.has_put_other (iP n1),Maps.has_put_other (iP n2),Maps.atKey_put_other (iP n1),Maps.atKey_put_other (iP n2)];exact h.at_ k e hk
 ·intro k hk
  have hk':∀ e∈l,e.i≠k:=fun e he=>hk e ((CP hil hjl).2 he);rw[Maps.has_put_other (iP (hk' ei (List.mem_of_getElem? hi)).symm),Maps.has_put_other (iP (hk' ej (List.mem_of_getElem? hj)).symm)];exact h.none k hk'
 ·intro e he
  exact h.wf e ((CP hil hjl).1 he)
theorem iE.tight {w:World} {b n:Nat} {D:DataW Unit} (h:iE w b n D):iE w b (Maps.size D) D:=by
 obtain⟨es,clock,hb,F,hs,rfl⟩:=h;refine⟨es,clock,hb,F,?_,rfl⟩;rw[Maps.size_eq,length_sorted];simp
theorem iE.key (w:World) (b n:Nat) (D:DataW Unit) (h:iE w b n D):Maps.Tidy D:=World.ownsMap.tidy h (Maps.int_keyed Tryz.underlying3)
structure jD (w:World) (q g cap b:Nat) (a2 a3 a4:Value) (l:List Ev):Prop where
 qc:w.heap[q]? = some (.cells #[.slice (some ⟨g,0,none⟩) l.length cap,.map (some b),a2,a3,a4] 164 (0,0))
 row:VO w g cap l
 map:∃ D,iE w b l.length D/\JI D l/\Maps.size D=l.length
 qg:q≠g
 le:l.length<=1000000
theorem jD.bg {w:World} {q g cap b:Nat} {a2 a3 a4:Value} {l:List Ev} (h:jD w q g cap b a2 a3 a4 l):b≠g/\b≠q:=by
 obtain⟨D,⟨es,clock,hb,_⟩,_⟩:=h.map;obtain⟨cur,hg,_⟩:=h.row;constructor
 ·rintro rfl;rw[hb] at hg;cases hg
 ·rintro rfl;have:=h.qc;rw[hb] at this;cases this
theorem jD.kept {w w':World} {S:List Nat} {q g cap b:Nat} {a2 a3 a4:Value} {l:List Ev} (h:jD w q g cap b a2 a3 a4 l) (ho:Oy S w w') (h1:q ∉ S) (h2:g ∉ S) (h3:b ∉ S):jD w' q g cap b a2 a3 a4 l:=by
 obtain⟨D,hD,r⟩:=h.map;exact⟨ho.got h.qc h1,h.row.kept ho h2,⟨D,iE.kept hD ho h3,r⟩,h.qg,h.le⟩
section
theorem BF {w:World} {q g cap b:Nat} {a2 a3 a4:Value} {l:List Ev} (h:jD w q g cap b a2 a3 a4 l) {i j:Nat} {ei ej:Ev} (hi:l[i]? = some ei) (hj:l[j]? = some ej) :
  Calls Tryz.prog 85 #[.pointer (some ⟨q,0,none⟩),.int .i64 i,.int .i64 j] w fun e w'=>e=.returned (.tuple #[])/\jD w' q g cap b a2 a3 a4 (sw l i j)/\Oy [g,b] w w':=by
 have hbg:=h.bg.1;have hbq:=h.bg.2;obtain⟨hq,hrow,⟨D,hD,hok,hsz⟩,hqg,hn⟩:=h;have hqs:=aF hq;have hil:i<l.length:=(List.getElem?_eq_some_iff.1 hi).1;have hjl:j<l.length:=(List.getElem?_eq_some_iff.1 hj).1;have c0:=aC hq 0;have r0:=hrow.cell cB hi (j:=0) (by omega);have r1:=hrow.cell cB hi (j:=1) (by omega);have r2:=hrow.cell cB hi (j:=2) (by omega);have s0:=hrow.cell cB hj (j:=0) (by omega);have s1:=hrow.cell cB hj (j:=1) (by omega);have s2:=hrow.cell cB hj (j:=2) (by omega);simp only[Nat.add_zero,IZ] at r0 s0 r1 r2 s1 s2;have hgs:=hrow.lt;have hbs:b<w.heap.size:=World.ownsMap.lt hD;have HD:=aA hD;have HO:=aA hok;have HZ:=aA hsz;clear hD hok hsz;have HQ:=aA hq;have HR:=aA hrow;have HI:=aA hi;have HJ:=aA hj;clear hq hrow hi hj;go_enter Tryz.func85,Tryz.ntmps85
 go_wp2;refine dG [0,1,2,3,4,5,6,7,8,9,10,11,12,13] [] (OnlyC [] w) (by kernel_rfl) (by kernel_rfl) ?_;simp only[bV];iterate 14 (refine aJ (fun K hK=>?_);go_simp;refine hK _ ?_;clear hK K)
 refine aK ?_;refine Rest.by (X:=Nat × Nat) (fun x a=>(a.put (some 6) (.pointer (some ⟨x.1,0,none⟩))).put (some 7) (.pointer (some ⟨x.2,0,none⟩))) (fun x w'=>x.1≠x.2/\w.heap.size<=x.1/\w.heap.size<=x.2/\w'.heap[x.1]? = some (.cells #[.int .i64 ei.t,.int .i64 ei.i,.int .i64 ei.x] 190 (0,0))/\w'.heap[x.2]? = some (.cells #[.int .i64 ej.t,.int .i64 ej.i,.int .i64 ej.x] 190 (0,0))/\Oy [] w w') ?_ ?_
 ·rintro⟨B1,B2⟩ w1 ⟨h1,h2,h3,h4,h5,h6⟩
  simp only at h1 h2 h3 h4 h5;simp only[Act.put,List.setIfInBounds_toArray,List.set_cons_succ,List.set_cons_zero];have H4:=aA h4;have H5:=aA h5;clear h4 h5;have x0:=aC H4.out 0;have x1:=aC H4.out 1;have x2:=aC H4.out 2;have y0:=aC H5.out 0;have y1:=aC H5.out 1;have y2:=aC H5.out 2;clear c0 r0 r1 r2 s0 s1 s2;go_wp2_with fail
  have hkj:=HO.out.wf ej (List.mem_of_getElem? HJ.out);have hki:=HO.out.wf ei (List.mem_of_getElem? HI.out);refine (zM q g cap l.length b i l.length ej.t ej.i ej.x _ l D w1 (h6.got HQ.out (by simp)) rfl rfl hqg (HR.out.kept h6 (by simp)) hbg (iE.kept HD.out h6 (by simp)) (by simp[maxLen];omega) hkj hil rfl (by omega)).mono ?_;rintro e w2 ⟨rfl,hrow2,hmap2,ho2⟩;have z0:=aC (ho2.got H4.out (by simp;omega)) 0;have z1:=aC (ho2.got H4.out (by simp;omega)) 1;have z2:=aC (ho2.got H4.out (by simp;omega)) 2;clear x0 x1 x2 y0 y1 y2;have HR2:=aA hrow2;have HM2:=aA hmap2;clear hrow2 hmap2;go_wp2_with fail
  refine (zM q g cap l.length b j (l.length+1) ei.t ei.i ei.x _ _ _ w2 (ho2.got (h6.got HQ.out (by simp)) (by simp;omega)) rfl rfl hqg HR2.out hbg HM2.out (by simp[maxLen];omega) hki hjl (by simp) (by omega)).mono ?_;rintro e w3 ⟨rfl,hrow3,hmap3,ho3⟩;have HR3:=aA hrow3;have HM3:=aA hmap3;clear hrow3 hmap3;go_wp2;go_end0
  have esw:(l.set i ej).set j ei=sw l i j:=by unfold sw;rw[RD HI.out,RD HJ.out]
  have hsz3:Maps.size ((D.put (.int .i64 ej.i) (.lit (.int .i64 i))).put (.int .i64 ei.i) (.lit (.int .i64 j)))=l.length:=by
   have t0:=iE.key _ _ _ _ HD.out;have t1:=iE.key _ _ _ _ HM2.out;rw[Maps.size_put t1,Maps.size_put t0,(HO.out.at_ j ej HJ.out).1,if_pos rfl,HZ.out];split
   ·rfl
   ·rename_i hh
    exfalso
    by_cases hij:ei.i=ej.i
    ·rw[hij,Maps.has_put_same HO.out.isMap (isKey _)] at hh;exact hh rfl
    ·rw[Maps.has_put_other (iP hij),(HO.out.at_ i ei HI.out).1] at hh;exact hh rfl
  refine⟨rfl,⟨?_,?_,⟨_,?_,HO.out.sw HI.out HJ.out,?_⟩,hqg,by rw[dF];exact hn⟩,?_⟩
  ·rw[dF];exact ho3.got (ho2.got (h6.got HQ.out (by simp)) (by simp;omega)) (by simp;omega)
  ·rw[<-esw];exact HR3.out
  ·rw[dF];have:=iE.tight HM3.out;rw[hsz3] at this;exact this
  ·rw[dF];exact hsz3
  ·exact (h6.fB ho2).trans ho3 (fun _ h=>.inl h)
 ·have hC0:Oy [] w w:=aR _ _
  refine aL [14,15] (by kernel_rfl) (by simp) (.inr (bC hC0.drew)) ?_;simp only[List.mem_cons,List.not_mem_nil,or_false,forall_eq_or_imp,forall_eq];refine⟨?_,?_⟩
  ·refine aD rfl ?_
   go_wp2;simp only[bA];refine aL [15] (by kernel_rfl) (by simp) (.inr (bC (hC0.alloc _).drew)) ?_;simp only[eD];refine aD rfl ?_;go_wp2;simp only[bA];refine aL [16] (by kernel_rfl) (by simp) (.inr (bC ((hC0.alloc _).alloc _).drew)) ?_;simp only[eD];refine aD rfl ?_;go_wp2;simp only[bA];refine aL [17] (by kernel_rfl) (by simp) (.inr (bC ((hC0.alloc _).alloc _).drew)) ?_;simp only[eD];refine aD rfl ?_;go_wp2;simp only[bA];refine dX (by kernel_rfl) (.inr (bC ((hC0.alloc _).alloc _).drew)) ⟨(w.heap.size,w.heap.size+1),rfl,by simp,by simp,by simp,?_,?_,((((aR [] w).alloc _).alloc _).drew)⟩
   ·exact tO _ _ _
   ·exact qK _ _ _
  ·refine aD rfl ?_
   go_wp2;simp only[bA];refine aL [14] (by kernel_rfl) (by simp) (.inr (bC (hC0.alloc _).drew)) ?_;simp only[eD];refine aD rfl ?_;go_wp2;simp only[bA];refine aL [16] (by kernel_rfl) (by simp) (.inr (bC ((hC0.alloc _).alloc _).drew)) ?_;simp only[eD];refine aD rfl ?_;go_wp2;simp only[bA];refine aL [17] (by kernel_rfl) (by simp) (.inr (bC ((hC0.alloc _).alloc _).drew)) ?_;simp only[eD];refine aD rfl ?_;go_wp2;simp only[bA];refine dX (by kernel_rfl) (.inr (bC ((hC0.alloc _).alloc _).drew)) ⟨(w.heap.size+1,w.heap.size),rfl,by simp,by simp,by simp,?_,?_,((((aR [] w).alloc _).alloc _).drew)⟩
   ·exact qK _ _ _
   ·exact tO _ _ _
end
def RZ (x y:Ev):Bool:=if x.t != y.t then decide (x.t<y.t) else decide (x.i<y.i)
def ge (x y:Ev):Prop:=y.t<x.t\/(y.t=x.t/\y.i<=x.i)
theorem sN {x y:Ev}:RZ x y=false↔ge x y:=by
 unfold RZ ge;by_cases h:x.t=y.t
 ·simp[h]
 ·have:(x.t != y.t)=true:=by simpa using h
  rw[if_pos this];simp;omega
theorem LP {x y:Ev}:RZ x y=true↔¬ ge x y:=by
 rw[<-sN];simp
def el (l:List Ev) (i:Nat):Ev:=l.getD i ⟨0,0,0⟩
theorem cZ {l:List Ev} {i:Nat} (h:i<l.length):l[i]? = some (el l i):=by simp[el,h]
theorem el_of {l:List Ev} {i:Nat} {e:Ev} (h:l[i]? = some e):el l i=e:=by simp[el,h]
theorem FN (l:List Ev) (i j k:Nat) (hi:i<l.length) (hj:j<l.length):el (sw l i j) k=if k=j then el l i else if k=i then el l j else el l k:=by
 unfold el;rw[List.getD_eq_getElem?_getD,wS l i j k hi hj];split
 ·simp
 ·split<;>simp
def Heap (n:Nat) (f:Nat->Ev):Prop:=∀ j,0<j->j<n->ge (f j) (f ((j-1) / 2))
def tZ (n:Nat) (f:Nat->Ev) (k:Nat):Prop:=
 (∀ j,0<j->j<n->j≠k->ge (f j) (f ((j-1) / 2)))/\(∀ j,0<j->j<n->(j-1) / 2=k->0<k->ge (f j) (f ((k-1) / 2)))
def pQ (n:Nat) (f:Nat->Ev) (k i:Nat):Prop:=
 (∀ j,0<j->j<n->(j-1) / 2≠k->j≠i->ge (f j) (f ((j-1) / 2))) /\
 (∀ j,0<j->j<n->(j-1) / 2=k->0<k->ge (f j) (f ((k-1) / 2))) /\
 (k≠i->0<i->ge (f i) (f ((i-1) / 2)))/\i<=k
theorem lU {x y z:Ev} (h1:ge x y) (h2:ge y z):ge x z:=by unfold ge at *;omega
theorem nU {x y:Ev} (h:¬ ge x y):ge y x:=by unfold ge at *;omega
theorem RG (x:Ev):ge x x:=by unfold ge;omega
theorem PV {n:Nat} {f:Nat->Ev} {k:Nat} (h:tZ n f k) (hk:k=0\/ge (f k) (f ((k-1) / 2))):Heap n f:=by
 intro j h1 h2;by_cases hj:j=k
 ·subst hj
  rcases hk with h'|h'
  ·omega
  ·exact h'
 ·exact h.1 j h1 h2 hj
theorem up_step {n:Nat} {f f':Nat->Ev} {k p:Nat} (h:tZ n f k) (h0:0<k) (hk:k<n) (hp:p=(k-1) / 2) (hb:¬ ge (f k) (f p))
  (hf:∀ j,f' j=if j=p then f k else if j=k then f p else f j):tZ n f' p:=by
 have hpk:p<k:=by omega
 constructor
 ·intro j h1 h2 h3
  rw[hf j,if_neg h3,hf ((j-1) / 2)];by_cases hjk:j=k
  ·subst hjk
   rw[if_pos rfl,if_pos hp.symm];exact nU hb
  ·rw[if_neg hjk]
   have hj:=h.1 j h1 h2 hjk;by_cases h4:(j-1) / 2=p
   ·rw[if_pos h4]
    rw[h4] at hj;exact lU hj (nU hb)
   ·rw[if_neg h4]
    by_cases h5:(j-1) / 2=k
    ·rw[if_pos h5]
     have:=h.2 j h1 h2 h5 h0;rw[<-hp] at this;exact this
    ·rw[if_neg h5];exact hj
 ·intro j h1 h2 h3 h4
  rw[hf ((p-1) / 2),if_neg (by omega),if_neg (by omega),hf j,if_neg (by omega)];have hpp:=h.1 p h4 (by omega) (by omega);by_cases hjk:j=k
  ·rw[if_pos hjk];exact hpp
  ·rw[if_neg hjk]
   have hj:=h.1 j h1 h2 hjk;rw[h3] at hj;exact lU hj hpp
theorem U7 {n:Nat} {f:Nat->Ev} {k i:Nat} (h:pQ n f k i) (hc:∀ j,0<j->j<n->(j-1) / 2=k->ge (f j) (f k)):tZ n f i:=by
 obtain⟨ha,hb,he,hik⟩:=h;constructor
 ·intro j h1 h2 h3
  by_cases h4:(j-1) / 2=k
  ·rw[h4];exact hc j h1 h2 h4
  ·exact ha j h1 h2 h4 h3
 ·intro j h1 h2 h3 h4
  by_cases h5:k=i
  ·subst h5;exact hb j h1 h2 h3 h4
  ·have:=ha j h1 h2 (by omega) (by omega)
   rw[h3] at this;exact lU this (he h5 h4)
theorem U6 {n:Nat} {f f':Nat->Ev} {k i c:Nat} (h:pQ n f k i) (h0:0<c) (hcn:c<n) (hp:(c-1) / 2=k) (hb:¬ ge (f c) (f k))
  (hc:∀ j,0<j->j<n->(j-1) / 2=k->ge (f j) (f c))
  (hf:∀ j,f' j=if j=c then f k else if j=k then f c else f j):pQ n f' c i:=by
 obtain⟨ha,hbb,he,hik⟩:=h;have hkc:k<c:=by omega
 refine⟨?_,?_,?_,by omega⟩
 ·intro j h1 h2 h3 h4
  rw[hf ((j-1) / 2),if_neg h3,hf j];by_cases h5:j=c
  ·subst h5
   rw[if_pos rfl,if_pos hp];exact nU hb
  ·rw[if_neg h5]
   by_cases h6:j=k
   ·subst h6
    rw[if_pos rfl,if_neg (by omega)];exact hbb c h0 hcn hp h1
   ·rw[if_neg h6]
    by_cases h7:(j-1) / 2=k
    ·rw[if_pos h7];exact hc j h1 h2 h7
    ·rw[if_neg h7];exact ha j h1 h2 h7 h4
 ·intro j h1 h2 h3 _
  rw[hp,hf k,if_neg (by omega),if_pos rfl,hf j,if_neg (by omega),if_neg (by omega)];have:=ha j h1 h2 (by omega) (by omega);rw[h3] at this;exact this
 ·intro h1 h2
  rw[hf ((i-1) / 2),if_neg (by omega),if_neg (by omega),hf i,if_neg (by omega)];by_cases h3:i=k
  ·subst h3
   rw[if_pos rfl];exact hbb c h0 hcn hp h2
  ·rw[if_neg h3];exact he (by omega) h2
theorem aAa {n:Nat} {f:Nat->Ev} (h:Heap n f):∀ j,j<n->ge (f j) (f 0):=by
 intro j;induction j using Nat.strongRecOn with
 | _ j ih =>
  intro hj;by_cases h0:j=0
  ·subst h0;exact RG _
  ·exact lU (h j (by omega) hj) (ih ((j-1) / 2) (by omega) (by omega))
theorem IQ {n:Nat} {f f':Nat->Ev} {i:Nat} (h:Heap n f) (hi:i<n) (hf:∀ j,j<n->j≠i->f' j=f j):pQ n f' i i:=by
 refine⟨?_,?_,fun h=>absurd rfl h,Nat.le_refl _⟩
 ·intro j h1 h2 h3 h4
  rw[hf j h2 h4,hf _ (by omega) h3];exact h j h1 h2
 ·intro j h1 h2 h3 h4
  rw[hf j h2 (by omega),hf _ (by omega) (by omega)];have:=h j h1 h2;rw[h3] at this;exact lU this (h i h4 hi)
theorem UR {n m:Nat} {f:Nat->Ev} (h:Heap n f) (hm:m<=n):Heap m f:=fun j h1 h2=>h j h1 (by omega)
theorem FC {n:Nat} {f f':Nat->Ev} (h:Heap n f) (hf:∀ j,j<n->f' j=f j):tZ (n+1) f' n:=by
 constructor
 ·intro j h1 h2 h3
  rw[hf j (by omega),hf _ (by omega)];exact h j h1 (by omega)
 ·intro j h1 h2 h3 h4;omega
end Go.Proofs.YtppjhbjmfkiejaaGreat
