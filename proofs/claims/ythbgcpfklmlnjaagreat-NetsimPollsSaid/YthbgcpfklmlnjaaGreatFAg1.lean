/- Ag1 AgM Ag2 AgH -/
import Derived.Test.YthbgcpfklmlnjaaGreatFV1
import Derived.Maps.OwnSet
namespace Go.Proofs.YthbgcpfklmlnjaaGreat
open List (map_cons map_nil mem_cons mem_of_getElem? not_mem_nil)
set_option maxRecDepth 100000
set_option maxHeartbeats 400000
open Go.RowKit
section
open Go.Lib (hid)
structure Ev where
 t:Int
 i:Int
 x:Int
abbrev GX (e:Ev):List Value:=[.int .i64 e.t,.int .i64 e.i,.int .i64 e.x]
theorem bU (e:Ev):(GX e).length=3:=rfl
abbrev UA (w:World) (g cap:Nat) (l:List Ev):Prop:=aP GX 149 3 w g cap l
abbrev gY (w:World) (b n:Nat) (D:DataW Unit):Prop:=w.ownsMap Tryz.prog 3 (plainElem Tryz.prog 3) b n D
theorem gY.kept {w w':World} {S:List Nat} {b n:Nat} {D:DataW Unit} (h:gY w b n D) (ho:Only S w w') (hn:b ∉ S):gY w' b n D:=by
 obtain⟨es,clock,hb,r⟩:=h;exact⟨es,clock,ho.got hb hn,r⟩
theorem P9 (t i x:Int) (w:World) :
  Calls Tryz.prog 131 #[.agg #[.int .i64 t,.int .i64 i,.int .i64 x]] w fun e w'=>e=.returned (.int .i64 i)/\Below w.heap.size w w':=by
 go_enter Tryz.func131,Tryz.ntmps131
 go_wp2;go_ret
 exact⟨rfl,(Below.refl _ _).alloc (Nat.le_refl _) _⟩
theorem yY (q g cap n b i m:Nat) (t k x:Int) (qc:Array Value) (l:List Ev) (D:DataW Unit) (w:World)
   (hq:w.heap[q]? = some (.cells qc 121 (0,0))) (hq0:qc[0]? = some (.slice (some ⟨g,0,none⟩) n cap)) (hq1:qc[1]? = some (.map (some b)))
   (hqg:q≠g) (hrow:UA w g cap l) (hbg:b≠g) (hmap:gY w b m D) (hmm:m<maxLen) (hkw:(Lit.int .i64 k).wf=true) (hi:i<n) (hln:n=l.length) (hn:n<=9223372036854775807) :
    Calls Tryz.prog 78 #[.pointer (some ⟨q,0,none⟩),.int .i64 i,.agg #[.int .i64 t,.int .i64 k,.int .i64 x]] w fun e w'=>e=.returned (.tuple #[])/\UA w' g cap (l.set i ⟨t,k,x⟩)/\gY w' b (m+1) (D.put (.int .i64 k) (.lit (.int .i64 i)))/\Only [g,b] w w':=by
 have hqs:=aD hq;have hgs:=hrow.lt;obtain⟨cur,hg,hcs,hlc,hcm,hct⟩:=hrow;have HQ:=hid hq;have HG:=hid hg;have HCS:=hid hcs;have HL:=hid hln;have HCT:=hid hct;have Hq0:=hid hq0;have Hq1:=hid hq1;clear hq hg hcs hln hct hq0 hq1;go_enter Tryz.func78,Tryz.ntmps78
 go_wp2;refine aF (G:=Code.wp _ _ _ _) ?_;intro w0 hb0 ho0 hs0;have d0:=(aA (ho0.got HQ.out (by simp)) 0).trans Hq0.out;have b0:=aA hb0 0;have b1:=aA hb0 1;have b2:=aA hb0 2;have HB:=hid hb0;clear hb0;have HS:=hid hs0;have hs0':w.heap.size<w0.heap.size:=by omega
 clear hs0;have hqs0:q<w0.heap.size:=by omega
 refine aL [0,1,2,3,4,5,6] [7] (by kernel_rfl) (by kernel_rfl) ?_;simp only[pick,map_cons,map_nil,List.getD_cons_succ,List.getD_cons_zero];iterate 7 (refine wpQuiet_step (fun K hK=>?_);go_simp;refine hK _ ?_;clear hK K)
 refine wpQuiet_nil ?_;intro w1 hw1;have ho1:=aI hw1;clear hw1;refine wpList_store_row rfl 149 _ _ rfl 3 (by kernel_rfl) g (i*3) rfl (.agg #[.int .i64 t,.int .i64 k,.int .i64 x]) rfl rfl rfl cur 149 (ho1.got (ho0.got HG.out (by simp)) (by simp)) (by have:=HL.out;have:=HCS.out;omega) ?_;intro w2 hg2 ho2 hs2;have d1:=(aA (ho2.got (ho1.got (ho0.got HQ.out (by simp)) (by simp)) (by simpa using hqg)) 1).trans Hq1.out;have hb2:=ho2.got (ho1.got HB.out (by simp)) (by simp;omega);have hqs2:q<w2.heap.size:=by have:=ho1.size;omega
 have hbs2:w.heap.size<w2.heap.size:=by have:=ho1.size;omega
 clear d0 b0 b1 b2;have b0:=aA hb2 0;have b1:=aA hb2 1;have b2:=aA hb2 2;have HB2:=hid hb2;clear hb2;have HG2:=hid hg2;clear hg2;have HS2:=hid hs2;clear hs2;go_wp2;refine aL [0,1,2,3,4,5,6,7] [8] (by kernel_rfl) (by kernel_rfl) ?_;simp only[pick,map_cons,map_nil,List.getD_cons_succ,List.getD_cons_zero];iterate 6 (refine wpQuiet_step (fun K hK=>?_);go_simp;refine hK _ ?_;clear hK K)
 refine fQ rfl 131 #[.agg #[.int .i64 t,.int .i64 k,.int .i64 x]] (fun _=>by kernel_rfl) (.int .i64 k) (gG fun w' _=>P9 t k x w') ?_;iterate 1 (refine wpQuiet_step (fun K hK=>?_);go_simp;refine hK _ ?_;clear hK K)
 refine wpQuiet_nil ?_;intro w3 hw3;have ho3:=aI hw3;clear hw3;have ho:=((((Only.aB ho0 ho1).eT ho2).aB ho3));refine wpList_mapUpdate_own _ rfl _ _ _ 117 rfl 3 3 (Maps.int_keyed Tryz.underlying3) Tryz.underlying117 (plainElem Tryz.prog 3) b m D rfl ?_ ?_ _ _ (.int .i64 k) rfl rfl ?_ (.lit (.int .i64 i)) [] ?_ ?_
 ·exact gY.kept hmap ho (by simpa using hbg)
 ·exact hmm
 ·exact Maps.keyOf_int_mk Tryz.underlying3 hkw
 ·exact plainElem_int Tryz.underlying3 (WalkArith.wf_i64 (by omega))
 intro w4 hm4 hg4;go_wp2;go_end0
 have hrow':UA w3 g cap (l.set i ⟨t,k,x⟩):=aP.set bU (by have:=HL.out;omega) ⟨cur,HG.out,HCS.out,hlc,hcm,HCT.out⟩ HG.out (ho3.got HG2.out (by simp));have ho4:Only [b] w3 w4:=(Only.refl [b] w3).grown hg4 (by simp);refine⟨rfl,hrow'.kept ho4 (by simpa using hbg.symm),hm4,(ho.weak (by simp)).trans ho4 (by simp)⟩
end
section
def sw (l:List Ev) (i j:Nat):List Ev:=(l.set i (l.getD j ⟨0,0,0⟩)).set j (l.getD i ⟨0,0,0⟩)
theorem cO (l:List Ev) (i j:Nat):(sw l i j).length=l.length:=by simp[sw]
theorem QC {l:List Ev} {i:Nat} {e:Ev} (h:l[i]? = some e):l.getD i ⟨0,0,0⟩=e:=by simp[h]
theorem vV (l:List Ev) (i j k:Nat) (hi:i<l.length) (hj:j<l.length) :
  (sw l i j)[k]? = if k=j then l[i]? else if k=i then l[j]? else l[k]? :=by
 unfold sw;rw[List.getElem?_set,List.getElem?_set];by_cases h1:k=j
 ·subst h1;simp[hi,hj]
 ·by_cases h2:k=i
  ·subst h2
   simp[Ne.symm h1,h1,hi,hj]
  ·simp[h1,h2,Ne.symm h1,Ne.symm h2]
theorem isKey (k:Int):Go.WideAt.IsKeyLit (.int .i64 k):=trivial
theorem iJ {a b:Int} (h:a≠b):Lit.int .i64 a≠Lit.int .i64 b:=fun e=>h (by injection e)
structure IL (D:DataW Unit) (l:List Ev):Prop where
 isMap:Maps.IsMap D
 at_:∀ (i:Nat) (e:Ev),l[i]? = some e->Maps.has D (.int .i64 e.i)=true/\D.atKey (.int .i64 e.i) (.lit (.int .i64 0))=.lit (.int .i64 i)
 none:∀ k:Int,(∀ e∈l,e.i≠k)->Maps.has D (.int .i64 k)=false
 wf:∀ e∈l,(Lit.int .i64 e.i).wf=true
theorem IL.apart {D:DataW Unit} {l:List Ev} (h:IL D l) {i j:Nat} {e f:Ev} (hi:l[i]? = some e) (hj:l[j]? = some f) (hne:i≠j):e.i≠f.i:=by
 intro he;have h1:=(h.at_ i e hi).2;have h2:=(h.at_ j f hj).2;rw[he,h2] at h1;injection h1 with h3
 injection h3 with _ h4
 omega
theorem BK {l:List Ev} {i j:Nat} (hi:i<l.length) (hj:j<l.length) {e:Ev}:e∈sw l i j↔e∈l:=by
 simp only[List.mem_iff_getElem?];constructor
 ·rintro⟨k,hk⟩
  rw[vV l i j k hi hj] at hk;split at hk
  ·exact⟨_,hk⟩
  ·split at hk
   ·exact⟨_,hk⟩
   ·exact⟨_,hk⟩
 ·rintro⟨k,hk⟩
  by_cases h1:k=i
  ·subst h1;exact⟨j,by rw[vV l k j j hi hj,if_pos rfl];exact hk⟩
  ·by_cases h2:k=j
   ·subst h2;refine⟨i,?_⟩
    rw[vV l i k i hi hj];by_cases h3:i=k
    ·exact absurd h3.symm h1
    ·rw[if_neg h3,if_pos rfl];exact hk
   ·exact⟨k,by rw[vV l i j k hi hj,if_neg h2,if_neg h1];exact hk⟩
theorem IL.sw {D:DataW Unit} {l:List Ev} (h:IL D l) {i j:Nat} {ei ej:Ev} (hi:l[i]? = some ei) (hj:l[j]? = some ej) :
  IL ((D.put (.int .i64 ej.i) (.lit (.int .i64 i))).put (.int .i64 ei.i) (.lit (.int .i64 j))) (sw l i j):=by
 have hil:i<l.length:=(List.getElem?_eq_some_iff.1 hi).1;have hjl:j<l.length:=(List.getElem?_eq_some_iff.1 hj).1;have hm1:Maps.IsMap (D.put (.int .i64 ej.i) (.lit (.int .i64 i))):=h.isMap.put _ _;refine⟨hm1.put _ _,?_,?_,?_⟩
 ·intro k e hk
  rw[vV l i j k hil hjl] at hk;by_cases h1:k=j
  ·subst h1
   rw[if_pos rfl,hi] at hk
   cases hk
   exact⟨Maps.has_put_same hm1 (isKey _) _,Maps.atKey_put_same hm1 (isKey _) _ _⟩
  ·rw[if_neg h1] at hk
   by_cases h2:k=i
   ·subst h2
    rw[if_pos rfl,hj] at hk
    cases hk
    have hne:=h.apart hj hi (Ne.symm h1)
    exact⟨by rw[Maps.has_put_other (iJ hne)];exact Maps.has_put_same h.isMap (isKey _) _,
     by rw[Maps.atKey_put_other (iJ hne)];exact Maps.atKey_put_same h.isMap (isKey _) _ _⟩
   ·rw[if_neg h2] at hk
    have n1:=h.apart hk hi h2;have n2:=h.apart hk hj h1;rw[Maps.has_put_other (iJ n1),Maps.has_put_other (iJ n2),Maps.atKey_put_other (iJ n1),Maps.atKey_put_other (iJ n2)];exact h.at_ k e hk
 ·intro k hk
  have hk':∀ e∈l,e.i≠k:=fun e he=>hk e ((BK hil hjl).2 he);rw[Maps.has_put_other (iJ (hk' ei (mem_of_getElem? hi)).symm),Maps.has_put_other (iJ (hk' ej (mem_of_getElem? hj)).symm)];exact h.none k hk'
 ·intro e he
  exact h.wf e ((BK hil hjl).1 he)
theorem gY.tight {w:World} {b n:Nat} {D:DataW Unit} (h:gY w b n D):gY w b (Maps.size D) D:=by
 obtain⟨es,clock,hb,F,hs,rfl⟩:=h;refine⟨es,clock,hb,F,?_,rfl⟩;rw[Maps.size_eq,length_sorted];simp
theorem gY.key (w:World) (b n:Nat) (D:DataW Unit) (h:gY w b n D):Maps.Tidy D:=World.ownsMap.tidy h (Maps.int_keyed Tryz.underlying3)
structure iX (w:World) (q g cap b:Nat) (a2 a3 a4:Value) (l:List Ev):Prop where
 qc:w.heap[q]? = some (.cells #[.slice (some ⟨g,0,none⟩) l.length cap,.map (some b),a2,a3,a4] 121 (0,0))
 row:UA w g cap l
 map:∃ D,gY w b l.length D/\IL D l/\Maps.size D=l.length
 qg:q≠g
 le:l.length<=1000000
theorem iX.bg {w:World} {q g cap b:Nat} {a2 a3 a4:Value} {l:List Ev} (h:iX w q g cap b a2 a3 a4 l):b≠g/\b≠q:=by
 obtain⟨D,⟨es,clock,hb,_⟩,_⟩:=h.map;obtain⟨cur,hg,_⟩:=h.row;constructor
 ·rintro rfl;rw[hb] at hg;cases hg
 ·rintro rfl;have:=h.qc;rw[hb] at this;cases this
theorem iX.kept {w w':World} {S:List Nat} {q g cap b:Nat} {a2 a3 a4:Value} {l:List Ev} (h:iX w q g cap b a2 a3 a4 l) (ho:Only S w w') (h1:q ∉ S) (h2:g ∉ S) (h3:b ∉ S):iX w' q g cap b a2 a3 a4 l:=by
 obtain⟨D,hD,r⟩:=h.map;exact⟨ho.got h.qc h1,h.row.kept ho h2,⟨D,gY.kept hD ho h3,r⟩,h.qg,h.le⟩
end
section
open Go.Lib (hid)
theorem AB {w:World} {q g cap b:Nat} {a2 a3 a4:Value} {l:List Ev} (h:iX w q g cap b a2 a3 a4 l) {i j:Nat} {ei ej:Ev} (hi:l[i]? = some ei) (hj:l[j]? = some ej) :
  Calls Tryz.prog 72 #[.pointer (some ⟨q,0,none⟩),.int .i64 i,.int .i64 j] w fun e w'=>e=.returned (.tuple #[])/\iX w' q g cap b a2 a3 a4 (sw l i j)/\Only [g,b] w w':=by
 have hbg:=h.bg.1;have hbq:=h.bg.2;obtain⟨hq,hrow,⟨D,hD,hok,hsz⟩,hqg,hn⟩:=h;have hqs:=aD hq;have hil:i<l.length:=(List.getElem?_eq_some_iff.1 hi).1;have hjl:j<l.length:=(List.getElem?_eq_some_iff.1 hj).1;have c0:=aA hq 0;have r0:=hrow.cell bU hi (j:=0) (by omega);have r1:=hrow.cell bU hi (j:=1) (by omega);have r2:=hrow.cell bU hi (j:=2) (by omega);have s0:=hrow.cell bU hj (j:=0) (by omega);have s1:=hrow.cell bU hj (j:=1) (by omega);have s2:=hrow.cell bU hj (j:=2) (by omega);simp only[Nat.add_zero,GX] at r0 s0 r1 r2 s1 s2;have hgs:=hrow.lt;have hbs:b<w.heap.size:=World.ownsMap.lt hD;have HD:=hid hD;have HO:=hid hok;have HZ:=hid hsz;clear hD hok hsz;have HQ:=hid hq;have HR:=hid hrow;have HI:=hid hi;have HJ:=hid hj;clear hq hrow hi hj;go_enter Tryz.func72,Tryz.ntmps72
 go_wp2;refine dA [0,1,2,3,4,5,6,7,8,9,10,11,12,13] [] (OnlyC [] w) (by kernel_rfl) (by kernel_rfl) ?_;simp only[pick,map_cons,map_nil,List.getD_cons_succ,List.getD_cons_zero];iterate 14 (refine aJ (fun K hK=>?_);go_simp;refine hK _ ?_;clear hK K)
 refine aN ?_;refine Rest.by (X:=Nat × Nat) (fun x a=>(a.put (some 6) (.pointer (some ⟨x.1,0,none⟩))).put (some 7) (.pointer (some ⟨x.2,0,none⟩))) (fun x w'=>x.1≠x.2/\w.heap.size<=x.1/\w.heap.size<=x.2/\w'.heap[x.1]? = some (.cells #[.int .i64 ei.t,.int .i64 ei.i,.int .i64 ei.x] 149 (0,0))/\w'.heap[x.2]? = some (.cells #[.int .i64 ej.t,.int .i64 ej.i,.int .i64 ej.x] 149 (0,0))/\Only [] w w') ?_ ?_
 ·rintro⟨B1,B2⟩ w1 ⟨h1,h2,h3,h4,h5,h6⟩
  simp only at h1 h2 h3 h4 h5;simp only[Act.put,List.setIfInBounds_toArray,List.set_cons_succ,List.set_cons_zero];have H4:=hid h4;have H5:=hid h5;clear h4 h5;have x0:=aA H4.out 0;have x1:=aA H4.out 1;have x2:=aA H4.out 2;have y0:=aA H5.out 0;have y1:=aA H5.out 1;have y2:=aA H5.out 2;clear c0 r0 r1 r2 s0 s1 s2;go_wp2_with fail
  have hkj:=HO.out.wf ej (mem_of_getElem? HJ.out);have hki:=HO.out.wf ei (mem_of_getElem? HI.out);refine (yY q g cap l.length b i l.length ej.t ej.i ej.x _ l D w1 (h6.got HQ.out (by simp)) rfl rfl hqg (HR.out.kept h6 (by simp)) hbg (gY.kept HD.out h6 (by simp)) (by simp[maxLen];omega) hkj hil rfl (by omega)).mono ?_;rintro e w2 ⟨rfl,hrow2,hmap2,ho2⟩;have z0:=aA (ho2.got H4.out (by simp;omega)) 0;have z1:=aA (ho2.got H4.out (by simp;omega)) 1;have z2:=aA (ho2.got H4.out (by simp;omega)) 2;clear x0 x1 x2 y0 y1 y2;have HR2:=hid hrow2;have HM2:=hid hmap2;clear hrow2 hmap2;go_wp2_with fail
  refine (yY q g cap l.length b j (l.length+1) ei.t ei.i ei.x _ _ _ w2 (ho2.got (h6.got HQ.out (by simp)) (by simp;omega)) rfl rfl hqg HR2.out hbg HM2.out (by simp[maxLen];omega) hki hjl (by simp) (by omega)).mono ?_;rintro e w3 ⟨rfl,hrow3,hmap3,ho3⟩;have HR3:=hid hrow3;have HM3:=hid hmap3;clear hrow3 hmap3;go_wp2;go_end0
  have esw:(l.set i ej).set j ei=sw l i j:=by unfold sw;rw[QC HI.out,QC HJ.out]
  have hsz3:Maps.size ((D.put (.int .i64 ej.i) (.lit (.int .i64 i))).put (.int .i64 ei.i) (.lit (.int .i64 j)))=l.length:=by
   have t0:=gY.key _ _ _ _ HD.out;have t1:=gY.key _ _ _ _ HM2.out;rw[Maps.size_put t1,Maps.size_put t0,(HO.out.at_ j ej HJ.out).1,if_pos rfl,HZ.out];split
   ·rfl
   ·rename_i hh
    exfalso
    by_cases hij:ei.i=ej.i
    ·rw[hij,Maps.has_put_same HO.out.isMap (isKey _)] at hh;exact hh rfl
    ·rw[Maps.has_put_other (iJ hij),(HO.out.at_ i ei HI.out).1] at hh;exact hh rfl
  refine⟨rfl,⟨?_,?_,⟨_,?_,HO.out.sw HI.out HJ.out,?_⟩,hqg,by rw[cO];exact hn⟩,?_⟩
  ·rw[cO];exact ho3.got (ho2.got (h6.got HQ.out (by simp)) (by simp;omega)) (by simp;omega)
  ·rw[<-esw];exact HR3.out
  ·rw[cO];have:=gY.tight HM3.out;rw[hsz3] at this;exact this
  ·rw[cO];exact hsz3
  ·exact (h6.eT ho2).trans ho3 (fun _ h=>.inl h)
 ·have hC0:Only [] w w:=Only.refl _ _
  refine aK [14,15] (by kernel_rfl) (by simp) (.inr (aZ hC0.drew)) ?_;simp only[mem_cons,not_mem_nil,or_false,forall_eq_or_imp,forall_eq];refine⟨?_,?_⟩
  ·refine aC rfl ?_
   go_wp2;simp only[bG];refine aK [15] (by kernel_rfl) (by simp) (.inr (aZ (hC0.alloc _).drew)) ?_;simp only[mem_cons,not_mem_nil,or_false,forall_eq];refine aC rfl ?_;go_wp2;simp only[bG];refine aK [16] (by kernel_rfl) (by simp) (.inr (aZ ((hC0.alloc _).alloc _).drew)) ?_;simp only[mem_cons,not_mem_nil,or_false,forall_eq];refine aC rfl ?_;go_wp2;simp only[bG];refine aK [17] (by kernel_rfl) (by simp) (.inr (aZ ((hC0.alloc _).alloc _).drew)) ?_;simp only[mem_cons,not_mem_nil,or_false,forall_eq];refine aC rfl ?_;go_wp2;simp only[bG];refine dV (by kernel_rfl) (.inr (aZ ((hC0.alloc _).alloc _).drew)) ⟨(w.heap.size,w.heap.size+1),rfl,by simp,by simp,by simp,?_,?_,((((Only.refl [] w).alloc _).alloc _).drew)⟩
   ·exact sF _ _ _
   ·exact qB _ _ _
  ·refine aC rfl ?_
   go_wp2;simp only[bG];refine aK [14] (by kernel_rfl) (by simp) (.inr (aZ (hC0.alloc _).drew)) ?_;simp only[mem_cons,not_mem_nil,or_false,forall_eq];refine aC rfl ?_;go_wp2;simp only[bG];refine aK [16] (by kernel_rfl) (by simp) (.inr (aZ ((hC0.alloc _).alloc _).drew)) ?_;simp only[mem_cons,not_mem_nil,or_false,forall_eq];refine aC rfl ?_;go_wp2;simp only[bG];refine aK [17] (by kernel_rfl) (by simp) (.inr (aZ ((hC0.alloc _).alloc _).drew)) ?_;simp only[mem_cons,not_mem_nil,or_false,forall_eq];refine aC rfl ?_;go_wp2;simp only[bG];refine dV (by kernel_rfl) (.inr (aZ ((hC0.alloc _).alloc _).drew)) ⟨(w.heap.size+1,w.heap.size),rfl,by simp,by simp,by simp,?_,?_,((((Only.refl [] w).alloc _).alloc _).drew)⟩
   ·exact qB _ _ _
   ·exact sF _ _ _
end
section
def QU (x y:Ev):Bool:=if x.t != y.t then decide (x.t<y.t) else decide (x.i<y.i)
def ge (x y:Ev):Prop:=y.t<x.t\/(y.t=x.t/\y.i<=x.i)
theorem rO {x y:Ev}:QU x y=false↔ge x y:=by
 unfold QU ge;by_cases h:x.t=y.t
 ·simp[h]
 ·have:(x.t != y.t)=true:=by simpa using h
  rw[if_pos this];simp;omega
theorem KV {x y:Ev}:QU x y=true↔¬ ge x y:=by
 rw[<-rO];simp
def el (l:List Ev) (i:Nat):Ev:=l.getD i ⟨0,0,0⟩
theorem bX {l:List Ev} {i:Nat} (h:i<l.length):l[i]? = some (el l i):=by simp[el,h]
theorem el_of {l:List Ev} {i:Nat} {e:Ev} (h:l[i]? = some e):el l i=e:=by simp[el,h]
theorem ES (l:List Ev) (i j k:Nat) (hi:i<l.length) (hj:j<l.length):el (sw l i j) k=if k=j then el l i else if k=i then el l j else el l k:=by
 unfold el;rw[List.getD_eq_getElem?_getD,vV l i j k hi hj];split
 ·simp
 ·split<;>simp
def Heap (n:Nat) (f:Nat->Ev):Prop:=∀ j,0<j->j<n->ge (f j) (f ((j-1) / 2))
def sN (n:Nat) (f:Nat->Ev) (k:Nat):Prop:=
 (∀ j,0<j->j<n->j≠k->ge (f j) (f ((j-1) / 2)))/\(∀ j,0<j->j<n->(j-1) / 2=k->0<k->ge (f j) (f ((k-1) / 2)))
def oU (n:Nat) (f:Nat->Ev) (k i:Nat):Prop:=
 (∀ j,0<j->j<n->(j-1) / 2≠k->j≠i->ge (f j) (f ((j-1) / 2))) /\
 (∀ j,0<j->j<n->(j-1) / 2=k->0<k->ge (f j) (f ((k-1) / 2))) /\
 (k≠i->0<i->ge (f i) (f ((i-1) / 2)))/\i<=k
theorem kZ {x y z:Ev} (h1:ge x y) (h2:ge y z):ge x z:=by unfold ge at *;omega
theorem nP {x y:Ev} (h:¬ ge x y):ge y x:=by unfold ge at *;omega
theorem QE (x:Ev):ge x x:=by unfold ge;omega
theorem NT {n:Nat} {f:Nat->Ev} {k:Nat} (h:sN n f k) (hk:k=0\/ge (f k) (f ((k-1) / 2))):Heap n f:=by
 intro j h1 h2;by_cases hj:j=k
 ·subst hj
  rcases hk with h'|h'
  ·omega
  ·exact h'
 ·exact h.1 j h1 h2 hj
theorem up_step {n:Nat} {f f':Nat->Ev} {k p:Nat} (h:sN n f k) (h0:0<k) (hk:k<n) (hp:p=(k-1) / 2) (hb:¬ ge (f k) (f p))
  (hf:∀ j,f' j=if j=p then f k else if j=k then f p else f j):sN n f' p:=by
 have hpk:p<k:=by omega
 constructor
 ·intro j h1 h2 h3
  rw[hf j,if_neg h3,hf ((j-1) / 2)];by_cases hjk:j=k
  ·subst hjk
   rw[if_pos rfl,if_pos hp.symm];exact nP hb
  ·rw[if_neg hjk]
   have hj:=h.1 j h1 h2 hjk;by_cases h4:(j-1) / 2=p
   ·rw[if_pos h4]
    rw[h4] at hj;exact kZ hj (nP hb)
   ·rw[if_neg h4]
    by_cases h5:(j-1) / 2=k
    ·rw[if_pos h5]
     have:=h.2 j h1 h2 h5 h0;rw[<-hp] at this;exact this
    ·rw[if_neg h5];exact hj
 ·intro j h1 h2 h3 h4
  rw[hf ((p-1) / 2),if_neg (by omega),if_neg (by omega),hf j,if_neg (by omega)];have hpp:=h.1 p h4 (by omega) (by omega);by_cases hjk:j=k
  ·rw[if_pos hjk];exact hpp
  ·rw[if_neg hjk]
   have hj:=h.1 j h1 h2 hjk;rw[h3] at hj;exact kZ hj hpp
theorem TM {n:Nat} {f:Nat->Ev} {k i:Nat} (h:oU n f k i) (hc:∀ j,0<j->j<n->(j-1) / 2=k->ge (f j) (f k)):sN n f i:=by
 obtain⟨ha,hb,he,hik⟩:=h;constructor
 ·intro j h1 h2 h3
  by_cases h4:(j-1) / 2=k
  ·rw[h4];exact hc j h1 h2 h4
  ·exact ha j h1 h2 h4 h3
 ·intro j h1 h2 h3 h4
  by_cases h5:k=i
  ·subst h5;exact hb j h1 h2 h3 h4
  ·have:=ha j h1 h2 (by omega) (by omega)
   rw[h3] at this;exact kZ this (he h5 h4)
theorem TK {n:Nat} {f f':Nat->Ev} {k i c:Nat} (h:oU n f k i) (h0:0<c) (hcn:c<n) (hp:(c-1) / 2=k) (hb:¬ ge (f c) (f k))
  (hc:∀ j,0<j->j<n->(j-1) / 2=k->ge (f j) (f c))
  (hf:∀ j,f' j=if j=c then f k else if j=k then f c else f j):oU n f' c i:=by
 obtain⟨ha,hbb,he,hik⟩:=h;have hkc:k<c:=by omega
 refine⟨?_,?_,?_,by omega⟩
 ·intro j h1 h2 h3 h4
  rw[hf ((j-1) / 2),if_neg h3,hf j];by_cases h5:j=c
  ·subst h5
   rw[if_pos rfl,if_pos hp];exact nP hb
  ·rw[if_neg h5]
   by_cases h6:j=k
   ·subst h6
    rw[if_pos rfl,if_neg (by omega)];exact hbb c h0 hcn hp h1
   ·rw[if_neg h6]
    by_cases h7:(j-1) / 2=k
    ·rw[if_pos h7];exact hc j h1 h2 h7
    ·rw[if_neg h7];exact ha j h1 h2 h7 h4
 ·intro j h1 h2 h3 _
  rw[hp,hf k,if_neg (by omega),if_pos rfl,hf j,if_neg (by omega),if_neg (by omega)];have:=ha j h1 h2 (by omega) (by omega);rw[h3] at this;exact this
 ·intro h1 h2
  rw[hf ((i-1) / 2),if_neg (by omega),if_neg (by omega),hf i,if_neg (by omega)];by_cases h3:i=k
  ·subst h3
   rw[if_pos rfl];exact hbb c h0 hcn hp h2
  ·rw[if_neg h3];exact he (by omega) h2
theorem YS {n:Nat} {f:Nat->Ev} (h:Heap n f):∀ j,j<n->ge (f j) (f 0):=by
 intro j;induction j using Nat.strongRecOn with
 | _ j ih =>
  intro hj;by_cases h0:j=0
  ·subst h0;exact QE _
  ·exact kZ (h j (by omega) hj) (ih ((j-1) / 2) (by omega) (by omega))
theorem GL {n:Nat} {f f':Nat->Ev} {i:Nat} (h:Heap n f) (hi:i<n) (hf:∀ j,j<n->j≠i->f' j=f j):oU n f' i i:=by
 refine⟨?_,?_,fun h=>absurd rfl h,Nat.le_refl _⟩
 ·intro j h1 h2 h3 h4
  rw[hf j h2 h4,hf _ (by omega) h3];exact h j h1 h2
 ·intro j h1 h2 h3 h4
  rw[hf j h2 (by omega),hf _ (by omega) (by omega)];have:=h j h1 h2;rw[h3] at this;exact kZ this (h i h4 hi)
theorem SY {n m:Nat} {f:Nat->Ev} (h:Heap n f) (hm:m<=n):Heap m f:=fun j h1 h2=>h j h1 (by omega)
theorem EH {n:Nat} {f f':Nat->Ev} (h:Heap n f) (hf:∀ j,j<n->f' j=f j):sN (n+1) f' n:=by
 constructor
 ·intro j h1 h2 h3
  rw[hf j (by omega),hf _ (by omega)];exact h j h1 (by omega)
 ·intro j h1 h2 h3 h4;omega
end
end Go.Proofs.YthbgcpfklmlnjaaGreat
