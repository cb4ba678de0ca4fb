/- Ag3 Ag4 Ag5 Ag6 -/
import Derived.Test.YthbgcpfklmlnjaaGreatFAg1
namespace Go.Proofs.YthbgcpfklmlnjaaGreat
open List (getD_cons_succ getD_cons_zero length_append map_cons map_nil mem_cons not_mem_nil)
set_option maxRecDepth 100000
set_option maxHeartbeats 1600000
open Go.RowKit
open Go.Lib (hid)
section
theorem CU (x y:Ev) (w:World) :
  Calls Tryz.prog 130 #[.agg #[.int .i64 x.t,.int .i64 x.i,.int .i64 x.x],.agg #[.int .i64 y.t,.int .i64 y.i,.int .i64 y.x]] w fun e w'=>e=.returned (.bool (QU x y))/\Below w.heap.size w w':=by
 have hb:=rO (x:=x) (y:=y);by_cases h:x.t=y.t
 focus
  have h':(x.t != y.t)=false:=by simpa using h
  have H:Hid (QU x y=decide (x.i<y.i)):=by unfold QU;rw[if_neg (by simp[h])];exact rfl
 rotate_left
 focus
  have h':(x.t != y.t)=true:=by simpa using h
  have H:Hid (QU x y=decide (x.t<y.t)):=by unfold QU;rw[if_pos h'];exact rfl
 rotate_left
 all_goals
  clear hb h;go_enter Tryz.func130,Tryz.ntmps130
  go_wp2;go_ret
  exact⟨by rw[H.out];rfl,((Below.refl _ _).alloc (Nat.le_refl _) _).alloc (by simp) _⟩
theorem LH {w:World} {q g cap b:Nat} {a2 a3 a4:Value} {l:List Ev} (h:iX w q g cap b a2 a3 a4 l) {i:Nat} (hi:i<l.length) (hu:sN l.length (el l) i) :
  Calls Tryz.prog 74 #[.pointer (some ⟨q,0,none⟩),.int .i64 i] w fun e w'=>e=.returned (.tuple #[]) /\
   ∃ l',iX w' q g cap b a2 a3 a4 l'/\Only [g,b] w w'/\l'.length=l.length/\Heap l'.length (el l')/\∀ e,e∈l'↔e∈l:=by
 have hn:=h.le;have H:=hid h;have HU:=hid hu;clear h hu;go_enter Tryz.func74,Tryz.ntmps74
 go_wp2;go_loopw [1] (fun vi wr=>∃ (k:Nat) (l':List Ev),vi=.int .i64 k/\k<l'.length/\iX wr q g cap b a2 a3 a4 l'/\Only [g,b] w wr/\l'.length=l.length/\sN l'.length (el l') k/\(∀ e,e∈l'↔e∈l)) (fun vi _=>(intOf vi).toNat)
 case atStart=>exact⟨i,l,rfl,hi,H.out,Only.refl _ _,rfl,HU.out,fun _=>Iff.rfl⟩
 case round =>
  obtain⟨k,l',rfl,hk,hrep,hol,hlen,hup,hmem⟩:=hrel;have HR:=hid hrep;have HO:=hid hol;have HL:=hid hlen;have HP:=hid hup;have HM:=hid hmem;clear hrep hol hlen hup hmem;have hkb:k<=1000000:=by have:=HL.out;omega
  by_cases h0:k=0
  ·subst h0
   go_wp2;go_end0
   exact⟨rfl,l',HR.out,HO.out,HL.out,NT HP.out (.inl rfl),HM.out⟩
  ·have hkp:0<k:=by omega
   obtain⟨p,hp,hpi⟩:∃ p:Nat,p=(k-1) / 2/\((k:Int)-1) / 2=(p:Int):=⟨(k-1) / 2,rfl,by omega⟩;have hpl:p<l'.length:=by omega
   have HPp:=hid hp;have HPI:=hid hpi;clear hp hpi;have hpk:p<k:=by have:=HPp.out;omega
   have hqs:=aD HR.out.qc;have hgs:=HR.out.row.lt;have c0:=aA HR.out.qc 0;have r0:=HR.out.row.cell bU (bX hk) (j:=0) (by omega);have r1:=HR.out.row.cell bU (bX hk) (j:=1) (by omega);have r2:=HR.out.row.cell bU (bX hk) (j:=2) (by omega);have s0:=HR.out.row.cell bU (bX hpl) (j:=0) (by omega);have s1:=HR.out.row.cell bU (bX hpl) (j:=1) (by omega);have s2:=HR.out.row.cell bU (bX hpl) (j:=2) (by omega);simp only[Nat.add_zero,GX] at r0 s0 r1 r2 s1 s2;have hcl:l'.length<=1000000:=by have:=HL.out;omega
   go_wp2;rw[HPI.out];refine aL [0,1,2,3,4,5,6,7,8,9,10,11,12,13,14,15,16] [] (by kernel_rfl) (by kernel_rfl) ?_;simp only[pick,map_cons,map_nil,getD_cons_succ,getD_cons_zero];iterate 15 (refine wpQuiet_step (fun K hK=>?_);go_simp;refine hK _ ?_;clear hK K)
   refine fQ rfl 130 #[.agg #[.int .i64 (el l' k).t,.int .i64 (el l' k).i,.int .i64 (el l' k).x],.agg #[.int .i64 (el l' p).t,.int .i64 (el l' p).i,.int .i64 (el l' p).x]] (fun _=>by kernel_rfl) (.bool (QU (el l' k) (el l' p))) (gG fun w' _=>CU _ _ w') ?_;iterate 1 (refine wpQuiet_step (fun K hK=>?_);go_simp;refine hK _ ?_;clear hK K)
   refine wpQuiet_nil ?_;intro w1 hw1;have ho1:=aI hw1;clear hw1;clear c0 r0 r1 r2 s0 s1 s2
   cases hb:QU (el l' k) (el l' p)
   ·have HB:=hid hb;clear hb
    go_wp2;refine bodyPost_ret (results_none rfl _ _ _) rfl ?_;exact⟨rfl,l',HR.out.kept ho1 (by simp) (by simp) (by simp),HO.out.aB ho1,HL.out,NT HP.out (.inr (by rw[<-HPp.out];exact rO.1 HB.out)),HM.out⟩
   ·have HB:=hid hb;clear hb
    go_wp2_with fail
    refine (AB (HR.out.kept ho1 (by simp) (by simp) (by simp)) (bX hk) (bX hpl)).mono ?_;rintro e w2 ⟨rfl,hrep2,ho2⟩;have HR2:=hid hrep2;clear hrep2;go_wp2;go_roundw
    case rel =>
     refine⟨p,sw l' k p,rfl,by rw[cO];exact hpl,HR2.out,(HO.out.aB ho1).trans ho2 (fun _ h=>.inl h),by rw[cO];exact HL.out,?_,fun e=>(BK hk hpl).trans (HM.out e)⟩;rw[cO];exact up_step HP.out hkp hk HPp.out (KV.1 HB.out) (fun j=>ES l' k p j hk hpl)
    case measure=>simp[intOf];omega
end
section
def rP (n:Nat) (f:Nat->Ev) (k c bl:Nat):Prop:=
 (c=k\/((c-1) / 2=k/\0<c/\c<n/\¬ ge (f c) (f k)))/\∀ j,0<j->j<n->(j-1) / 2=k->j<bl->ge (f j) (f c)
theorem DT (n:Nat) (f:Nat->Ev) (k:Nat):rP n f k k (2*k+1):=⟨.inl rfl,fun j _ _ _ _=>by omega⟩
theorem KD {n:Nat} {f:Nat->Ev} {k c bl:Nat} (h:rP n f k c bl) (h1:2*k+1<=bl) (h2:bl<=2*k+2) (h3:bl<n) (hb:¬ ge (f bl) (f c)):rP n f k bl (bl+1):=by
 obtain⟨ha,hc⟩:=h;refine⟨.inr ⟨by omega,by omega,h3,?_⟩,?_⟩
 ·rcases ha with rfl|⟨_,_,_,ha⟩
  ·exact hb
  ·intro hg;exact hb (kZ hg (nP ha))
 ·intro j j1 j2 j3 j4
  by_cases h:j=bl
  ·subst h;exact QE _
  ·exact kZ (hc j j1 j2 j3 (by omega)) (nP hb)
theorem MQ {n:Nat} {f:Nat->Ev} {k c bl:Nat} (h:rP n f k c bl) (hb:ge (f bl) (f c)):rP n f k c (bl+1):=by
 refine⟨h.1,fun j j1 j2 j3 j4=>?_⟩;by_cases h':j=bl
 ·subst h';exact hb
 ·exact h.2 j j1 j2 j3 (by omega)
theorem ZE {w:World} {q g cap b:Nat} {a2 a3 a4:Value} {l:List Ev} (h:iX w q g cap b a2 a3 a4 l) {i:Nat} (hi:i<l.length) (hu:oU l.length (el l) i i) :
  Calls Tryz.prog 73 #[.pointer (some ⟨q,0,none⟩),.int .i64 i] w fun e w'=>e=.returned (.tuple #[]) /\
   ∃ l',iX w' q g cap b a2 a3 a4 l'/\Only [g,b] w w'/\l'.length=l.length/\sN l'.length (el l') i/\∀ e,e∈l'↔e∈l:=by
 have hn:=h.le;have H:=hid h;have HU:=hid hu;clear h hu;go_enter Tryz.func73,Tryz.ntmps73
 go_wp2;go_loopw [1] (fun vi wr=>∃ (k:Nat) (l':List Ev),vi=.int .i64 k/\k<l'.length/\iX wr q g cap b a2 a3 a4 l'/\Only [g,b] w wr/\l'.length=l.length/\oU l'.length (el l') k i/\(∀ e,e∈l'↔e∈l)) (fun vi _=>l.length-(intOf vi).toNat)
 case atStart=>exact⟨i,l,rfl,hi,H.out,Only.refl _ _,rfl,HU.out,fun _=>Iff.rfl⟩
 case round =>
  obtain⟨k,l',rfl,hk,hrep,hol,hlen,hup,hmem⟩:=hrel;obtain⟨wo,hwo⟩:∃ wo:World,wo=wr:=⟨_,rfl⟩;subst hwo;have HR:=hid hrep;have HO:=hid hol;have HL:=hid hlen;have HP:=hid hup;have HM:=hid hmem;clear hrep hol hlen hup hmem;have hkb:k<=1000000:=by have:=HL.out;omega
  have hcl:l'.length<=1000000:=by have:=HL.out;omega
  go_wp2;go_loopw [4,5] (fun vf vb wi=>∃ (c bl:Nat),vf=.int .i64 c/\vb=.int .i64 bl/\2*k+1<=bl/\bl<=2*k+3/\c<l'.length/\rP l'.length (el l') k c bl/\Only [] wo wi) (fun _ vb _=>2*k+3-(intOf vb).toNat)
  case atStart=>exact⟨k,2*k+1,rfl,by go_num,by omega,by omega,hk,DT _ _ _,Only.refl _ _⟩
  case round =>
   obtain⟨c,bl,rfl,rfl,hb1,hb2,hcl',hfo,hoi⟩:=hrel;have HF:=hid hfo;have HI:=hid hoi;clear hfo hoi;have hrep:=HR.out.kept HI.out (by simp) (by simp) (by simp);have HRI:=hid hrep;clear hrep;have c0:=aA HRI.out.qc 0;have hqs:=aD HRI.out.qc;have hgs:=HRI.out.row.lt;by_cases hin:bl<=2*k+2/\bl<l'.length
   ·obtain⟨hin1,hin2⟩:=hin
    have r0:=HRI.out.row.cell bU (bX hin2) (j:=0) (by omega);have r1:=HRI.out.row.cell bU (bX hin2) (j:=1) (by omega);have r2:=HRI.out.row.cell bU (bX hin2) (j:=2) (by omega);have s0:=HRI.out.row.cell bU (bX hcl') (j:=0) (by omega);have s1:=HRI.out.row.cell bU (bX hcl') (j:=1) (by omega);have s2:=HRI.out.row.cell bU (bX hcl') (j:=2) (by omega);simp only[Nat.add_zero,GX] at r0 s0 r1 r2 s1 s2;go_wp2;refine aL [0,1,2,3,4,5,6,7,8,9,10,11,12,13,14,15] [] (by kernel_rfl) (by kernel_rfl) ?_;simp only[pick,map_cons,map_nil,getD_cons_succ,getD_cons_zero];iterate 15 (refine wpQuiet_step (fun K hK=>?_);go_simp;refine hK _ ?_;clear hK K)
    refine fQ rfl 130 #[.agg #[.int .i64 (el l' bl).t,.int .i64 (el l' bl).i,.int .i64 (el l' bl).x],.agg #[.int .i64 (el l' c).t,.int .i64 (el l' c).i,.int .i64 (el l' c).x]] (fun _=>by kernel_rfl) (.bool (QU (el l' bl) (el l' c))) (gG fun w' _=>CU _ _ w') ?_;refine wpQuiet_nil ?_;intro w1 hw1;have ho1:=aI hw1;clear hw1;clear c0 r0 r1 r2 s0 s1 s2
    cases hb:QU (el l' bl) (el l' c)
    ·have HB:=hid hb;clear hb
     go_wp2;go_roundw
     case rel=>exact⟨c,bl+1,rfl,by go_num,by omega,by omega,hcl',MQ HF.out (rO.1 HB.out),HI.out.aB ho1⟩
     case measure=>simp[intOf];omega
    ·have HB:=hid hb;clear hb
     go_wp2;go_roundw
     case rel=>exact⟨bl,bl+1,rfl,by go_num,by omega,by omega,hin2,KD HF.out hb1 hin1 hin2 (KV.1 HB.out),HI.out.aB ho1⟩
     case measure=>simp[intOf];omega
   ·have hch:∀ j,0<j->j<l'.length->(j-1) / 2=k->ge (el l' j) (el l' c):=fun j j1 j2 j3=>HF.out.2 j j1 j2 j3 (by omega)
    have HCH:=hid hch;clear hch;by_cases hck:c=k
    ·subst hck
     by_cases hle:bl<=2*c+2
     all_goals
      go_wp2;refine bodyPost_ret (results_none rfl _ _ _) rfl ?_;exact⟨rfl,l',HRI.out,HO.out.aB HI.out,HL.out,TM HP.out HCH.out,HM.out⟩
    ·have hce:((c:Int) == (k:Int))=false:=by simp;omega
     obtain⟨p1,p2,p3,p4⟩:=HF.out.1.resolve_left hck;have P1:=hid p1;have P4:=hid p4;clear p1 p4;by_cases hle:bl<=2*k+2
     all_goals
      go_wp2_with fail
      refine (AB HRI.out (bX hk) (bX hcl')).mono ?_;rintro e w2 ⟨rfl,hrep2,ho2⟩;have HR2:=hid hrep2;clear hrep2;go_wp2;go_roundw
      case rel =>
       refine⟨c,sw l' k c,rfl,by rw[cO];exact hcl',HR2.out,(HO.out.aB HI.out).trans ho2 (fun _ h=>.inl h),by rw[cO];exact HL.out,?_,fun e=>(BK hk hcl').trans (HM.out e)⟩;rw[cO];exact TK HP.out p2 p3 P1.out P4.out HCH.out (fun j=>ES l' k c j hk hcl')
      case measure=>have:=HL.out;have:=P1.out;simp[intOf];omega
end
section
def nW (w:World) (q:Nat) (F:List Nat) (a2 a3 a4:Value) (l:List Ev):Prop:=
 (F=[q]/\l=[]/\w.heap[q]? = some (.cells #[.slice none 0 0,.map none,a2,a3,a4] 121 (0,0))) \/
 (∃ g cap b,F=[q,g,b]/\iX w q g cap b a2 a3 a4 l)
theorem IL.nil:IL (.map []:DataW Unit) []:=⟨Maps.isMap_empty,by simp,fun _ _=>rfl,by simp⟩
theorem IL.snoc {D:DataW Unit} {l:List Ev} (h:IL D l) (x:Ev) (hx:∀ e∈l,e.i≠x.i) (hw:(Lit.int .i64 x.i).wf=true):IL (D.put (.int .i64 x.i) (.lit (.int .i64 l.length))) (l ++ [x]):=by
 refine⟨h.isMap.put _ _,?_,?_,?_⟩
 ·intro i e hi
  by_cases hil:i<l.length
  ·rw[List.getElem?_append_left hil] at hi
   have hne:=hx e (List.mem_of_getElem? hi);rw[Maps.has_put_other (iJ hne),Maps.atKey_put_other (iJ hne)];exact h.at_ i e hi
  ·rw[List.getElem?_append_right (by omega)] at hi
   have h0:i-l.length=0:=by
    rcases Nat.eq_zero_or_pos (i-l.length) with h|h
    ·exact h
    ·rw[List.getElem?_eq_none (by simp;omega)] at hi;cases hi
   rw[h0] at hi;simp at hi;subst hi;have:i=l.length:=by omega
   subst this;exact⟨Maps.has_put_same h.isMap (isKey _) _,Maps.atKey_put_same h.isMap (isKey _) _ _⟩
 ·intro k hk
  rw[Maps.has_put_other (iJ (hk x (by simp)).symm)];exact h.none k (fun e he=>hk e (by simp[he]))
 ·intro e he
  rcases List.mem_append.1 he with h'|h'
  ·exact h.wf e h'
  ·simp at h';subst h';exact hw
theorem Tryz.info149:(Tryz.prog.info? 149).map (fun i=>(i.zero,i.size,i.bytes))=some (some (.agg #[.int .i64 0,.int .i64 0,.int .i64 0]),3,24):=by kernel_rfl
structure RA (w w0:World) (q:Nat) (F:List Nat) (a2 a3 a4:Value) (l:List Ev) (x:Ev) (v:Value) (b B:Nat) (D:DataW Unit):Prop where
 qc:w0.heap[q]? = some (.cells #[v,.map (some b),a2,a3,a4] 121 (0,0))
 own:w0.ownsRow 0 149 3 v l.length (l.flatMap GX)
 vq:∀ k,v.ownBlock=some k->k≠q/\k≠B/\k∈F
 map:gY w0 b l.length D
 ok:IL D l
 sz:Maps.size D=l.length
 box:w0.heap[B]? = some (.cells #[.int .i64 x.t,.int .i64 x.i,.int .i64 x.x] 149 (0,0))
 bq:B≠q
 bB:B=w.heap.size
 bm:b∈F\/w.heap.size<=b
 qF:q∈F
 only:Only F w w0
theorem WE {w:World} {q:Nat} {F:List Nat} {a2 a3 a4:Value} {l:List Ev} (h:nW w q F a2 a3 a4 l) (x:Ev) (hx:∀ e∈l,e.i≠x.i) (hw:(Lit.int .i64 x.i).wf=true) (hn:l.length<1000000) (hheap:Heap l.length (el l)) :
  Calls Tryz.prog 71 #[.pointer (some ⟨q,0,none⟩),.agg #[.int .i64 x.t,.int .i64 x.i,.int .i64 x.x]] w fun e w'=>e=.returned (.tuple #[]) /\
   ∃ F' l',nW w' q F' a2 a3 a4 l'/\Only F w w'/\(∀ k∈F',k∈F\/w.heap.size<=k)/\l'.length=l.length+1/\Heap l'.length (el l')/\∀ e,e∈l'↔e=x\/e∈l:=by
 have HX:=hid hx;have HH:=hid hheap;clear hx hheap;have hmm:=@run_makeMap Tryz.prog;have hen:=fun (r:Option Nat) (w:World)=>run_eql_map_nil (P:=Tryz.prog) w 117 _ _ r Tryz.underlying117;obtain⟨i0,hi0,hz0,hz1,hz2⟩:=info_parts Tryz.info149;have HI0:=hid hi0;have HZ0:=hid hz0;have HZ1:=hid hz1;have HZ2:=hid hz2;clear hi0 hz0 hz1 hz2
 have pre:Hid (∃ v m,w.heap[q]? = some (.cells #[v,.map m,a2,a3,a4] 121 (0,0))/\(m=none->l=[]/\v=.slice none 0 0/\F=[q])/\∀ b,m=some b->∃ g cap,F=[q,g,b]/\iX w q g cap b a2 a3 a4 l/\v=.slice (some ⟨g,0,none⟩) l.length cap):=by
  rcases h with ⟨h1,h2,h3⟩|⟨g,cap,b,h1,h2⟩
  ·exact⟨_,_,h3,fun _=>⟨h2,rfl,h1⟩,fun _ h=>by cases h⟩
  ·exact⟨_,_,h2.qc,fun h=>(by cases h),fun b' hb'=>by cases hb';exact⟨g,cap,h1,h2,rfl⟩⟩
 obtain⟨v,m,hq,hm0,hm1⟩:=pre.out;clear pre h;have hqs:=aD hq;have c1:=aA hq 1;have f1:=aM hq 1;have HQ:=hid hq;clear hq;have HM0:=hid hm0;have HM1:=hid hm1;clear hm0 hm1
 cases m with
 | none =>
  obtain⟨hl0,rfl,rfl⟩:=HM0.out rfl;have HL0:=hid hl0;clear HM0 HM1 hl0;go_enter Tryz.func71,Tryz.ntmps71
  go_wp2;refine kP (G:=Code.wp _ _ _ _) (R:=fun w0=>RA w w0 q [q] a2 a3 a4 l x (.slice none 0 0) (w.heap.size+1) w.heap.size (.map [])) ?_ ?_
  ·have e1:=aG (o:=1) (.map (some (w.heap.size+1))) HQ.out
   have hs:(w.setCell ⟨q,1,none⟩ (.map (some (w.heap.size+1)))).heap.size=w.heap.size:=size_setCell _ _ _;refine⟨?_,by rw[HL0.out];exact World.ownsRow_nil _ _ _ _,fun k hk=>(by cases hk),?_,by rw[HL0.out];exact IL.nil,by rw[HL0.out];rfl,?_,by omega,rfl,.inr (by omega),by simp,?_⟩
   ·exact alloc_old (alloc_old e1)
   ·have:=World.ownsMap_made (H:=Unit) ((w.setCell ⟨q,1,none⟩ (.map (some (w.heap.size+1)))).alloc (Obj.cells #[Value.int IntKind.i64 x.t,Value.int IntKind.i64 x.i,Value.int IntKind.i64 x.x] 149)) Tryz.prog 3 (plainElem Tryz.prog 3)
    simp only[World.size_alloc,hs] at this;rw[HL0.out];exact this
   ·have:=bA (w.setCell ⟨q,1,none⟩ (.map (some (w.heap.size+1)))) (Obj.cells #[Value.int IntKind.i64 x.t,Value.int IntKind.i64 x.i,Value.int IntKind.i64 x.x] 149)
    rw[hs] at this;exact alloc_old this
   ·exact (((Only.refl [q] w).setCell (by simp) _).alloc _).alloc _
  ·intro w0 hp
   have HPP:=hid hp;clear hp c1 f1;have d0:=aA HPP.out.qc 0;have b0:=aA HPP.out.box 0;have b1:=aA HPP.out.box 1;have b2:=aA HPP.out.box 2;have hq0:=aD HPP.out.qc;have hB0:=aD HPP.out.box;have hqn:q ∉ ([]:List Nat):=by simp
   have hBn:w.heap.size ∉ ([]:List Nat):=by simp
   refine dA [0,1,2,3,4,5] [8,9,10] (OnlyC ([]:List Nat) w0) (by kernel_rfl) (by kernel_rfl) ?_;simp only[pick,map_cons,map_nil,getD_cons_succ,getD_cons_zero];iterate 6 (refine aJ (fun K hK=>?_);go_simp;refine hK _ ?_;clear hK K)
   refine aN ?_;clear d0 b0 b1 b2;refine Rest.by (X:=Nat × Nat) (fun y a=>(((((a.put (some 20) (.slice (some ⟨w0.heap.size,0,none⟩) 1 1)).put (some 21) (.slice (some ⟨y.1,0,none⟩) ((l).length+1) y.2)).put (some 22) (.pointer (some ⟨q,0,none⟩))).put (some 23) (.pointer (some ⟨q,0,none⟩))))) (fun y w'=>w'.heap[q]? = some (.cells #[.slice (some ⟨y.1,0,none⟩) ((l).length+1) y.2,.map (some (w.heap.size+1)),a2,a3,a4] 121 (0,0))/\w'.ownsRow 0 149 3 (.slice (some ⟨y.1,0,none⟩) ((l).length+1) y.2) ((l).length+1) ((l).flatMap GX ++ GX x)/\Only (q::([]:List Nat)) w0 w'/\(y.1∈([]:List Nat)\/w0.heap.size<=y.1)) ?_ ?_
   ·rintro⟨g',cap'⟩ w1 ⟨h1,h2,h3,h4⟩
    simp only at h1 h2 h4;simp only[Act.put,List.setIfInBounds_toArray,List.set_cons_succ,List.set_cons_zero]
    have hgq:g'≠q:=by
     rcases h4 with h|h
     ·rintro rfl;exact hqn h
     ·omega
    have hbg:w.heap.size+1≠q/\w.heap.size+1 ∉ ([]:List Nat):=by
     obtain⟨es,clock,hb,_⟩:=HPP.out.map;refine⟨fun e=>?_,?_⟩
     ·rw[e,HPP.out.qc] at hb;cases hb
     ·simp
    have hbs:=World.ownsMap.lt HPP.out.map;have hmap1:gY w1 (w.heap.size+1) l.length (.map []:DataW Unit):=gY.kept HPP.out.map h3 (by intro h;rcases mem_cons.1 h with h|h;exact hbg.1 h;exact hbg.2 h);have hbox1:=h3.got HPP.out.box (by intro h;rcases mem_cons.1 h with h|h;exact HPP.out.bq h;exact hBn h);have hrow1:UA w1 g' cap' (l ++ [x]):=aP.kG (by rw[List.flatMap_append];simpa using h2) (by simp)
    have hbg':w.heap.size+1≠g':=by
     obtain⟨es,clock,hb,_⟩:=hmap1;obtain⟨cur,hg,_⟩:=hrow1;intro e;rw[e,hg] at hb;cases hb
    have k0:=aA h1 0;have x0:=aA hbox1 0;have x1:=aA hbox1 1;have x2:=aA hbox1 2;have HH1:=hid h1;have HH4:=hid h4;have HMP:=hid hmap1;have HRW:=hid hrow1;clear h1 h2 h4 hmap1 hbox1 hrow1;go_wp2_with fail
    clear k0 x0 x1 x2;refine (yY q g' cap' (l.length+1) (w.heap.size+1) l.length l.length x.t x.i x.x _ (l ++ [x]) (.map []:DataW Unit) w1 HH1.out rfl rfl (Ne.symm hgq) HRW.out hbg' HMP.out (by simp[maxLen];omega) hw (by omega) (by simp) (by omega)).mono ?_;rintro e w2 ⟨rfl,hrow2,hmap2,ho2⟩;have HR2:=hid hrow2;have HM2:=hid hmap2;clear hrow2 hmap2;have hset:(l ++ [x]).set l.length ⟨x.t,x.i,x.x⟩=l ++ [x]:=by simp
    have hrep:iX w2 q g' cap' (w.heap.size+1) a2 a3 a4 (l ++ [x]):=by
     have hk:=HPP.out.ok.snoc x HX.out hw
     have hz:Maps.size (DataW.put (.map []:DataW Unit) (.int .i64 x.i) (.lit (.int .i64 l.length)))=l.length+1:=by
      rw[Maps.size_put (gY.key _ _ _ _ HMP.out),HPP.out.ok.none x.i HX.out,HPP.out.sz];rfl
     refine⟨?_,?_,⟨_,?_,hk,?_⟩,Ne.symm hgq,by simp;omega⟩
     ·have:=ho2.got HH1.out (by simp only[mem_cons,not_mem_nil,or_false,not_or];exact⟨Ne.symm hgq,Ne.symm hbg.1⟩)
      simpa using this
     ·rw[<-hset];exact HR2.out
     ·rw[length_append];exact HM2.out
     ·rw[hz];simp
    have HRP:=hid hrep;clear hrep
    have hun:sN (l ++ [x]).length (el (l ++ [x])) l.length:=by
     rw[length_append];exact EH HH.out (fun j hj=>by unfold el;simp only[List.getD_eq_getElem?_getD,List.getElem?_append_left hj])
    have HUN:=hid hun;clear hun;go_wp2_with fail
    refine (LH HRP.out (by simp) HUN.out).mono ?_;rintro e w3 ⟨rfl,l',hrep3,ho3,hlen3,hheap3,hmem3⟩;have HR3:=hid hrep3;have HL3:=hid hlen3;have HP3:=hid hheap3;have HM3:=hid hmem3;clear hrep3 hlen3 hheap3 hmem3;go_wp2;go_end0
    refine⟨rfl,[q,g',w.heap.size+1],l',.inr ⟨g',cap',_,rfl,HR3.out⟩,?_,?_,by rw[HL3.out];simp,HP3.out,fun e=>by rw[HM3.out e];simp[or_comm]⟩
    ·have hF:∀ k∈q::([]:List Nat),k∈[q]\/w.heap.size<=k:=by simp
     have o1:Only [q] w w1:=HPP.out.only.trans h3 hF;have hs:=HPP.out.only.size
     have hgF:g'∈[q]\/w.heap.size<=g':=by
      rcases HH4.out with h|h
      ·exact hF g' (List.mem_cons_of_mem _ h)
      ·exact .inr (by omega)
     have hbF:=HPP.out.bm;refine (o1.trans ho2 ?_).trans ho3 ?_
     all_goals
      intro k hk;simp only[mem_cons,not_mem_nil,or_false] at hk;rcases hk with rfl|rfl
      ·exact hgF
      ·exact hbF
    ·have hs:=HPP.out.only.size
     intro k hk;simp only[mem_cons,not_mem_nil,or_false] at hk;rcases hk with rfl|rfl|rfl
     ·exact .inl (by simp)
     ·rcases HH4.out with h|h
      ·left;simp at h
      ·exact .inr (by omega)
     ·exact HPP.out.bm
   ·have hC0:Only ([]:List Nat) w0 w0:=Only.refl _ _
    refine aK [6] (by kernel_rfl) (by simp) (.inr (aZ hC0.drew)) ?_;simp only[mem_cons,not_mem_nil,or_false,forall_eq];refine aC rfl ?_;go_wp2;simp only[bG];refine CX (G:=eU _ _ _ _ _ _ _ _ _) ?_;intro w1 hn1 ho1 hs1;refine aK [7] (by kernel_rfl) (by simp) (.inr (aZ (ho1.weak (by simp)))) ?_;simp only[mem_cons,not_mem_nil,or_false,forall_eq];refine aC rfl ?_;have hown1:w1.ownsRow 0 149 3 (.slice none 0 0) (l).length ((l).flatMap GX):=HPP.out.own.kept (row:=none) ⟨ho1.os,ho1.tape,ho1.output,ho1.size,fun k hk _=>ho1.block k hk (by simp)⟩ (by left;rfl);refine cB rfl (.tmp 18) (.tmp 20) 116 rfl 149 i0 (.agg #[.int .i64 0,.int .i64 0,.int .i64 0]) 3 24 Tryz.underlying116 HI0.out HZ0.out HZ1.out HZ2.out rfl (by decide) _ _ _ rfl hown1 ⟨w0.heap.size,0,none⟩ 1 1 (GX x) rfl rfl ?_ (by simp[GX,Value.oneCell']) (by simp[maxLen];omega) (by omega) (by decide) ?_
    ·intro j u hj
     have hadd:(⟨w0.heap.size,0,none⟩:Addr).add j=⟨w0.heap.size,j,none⟩:=by unfold Addr.add;split<;>simp_all
     rw[hadd,aA hn1];simpa [GX] using hj
    intro g' cap' w2 hown2 ho2 hblk;have ho2:Only ([]:List Nat) w1 w2:=ho2;have hqc2:=ho2.got (ho1.got HPP.out.qc (by simp)) hqn;have d0:=aA hqc2 0;have f0:=aM hqc2 0;have HO2:=hid hown2;have HB2:=hid hblk;have HQC:=hid hqc2;clear hown2 hblk hqc2;go_wp2;simp only[bG];refine aK [8] (by kernel_rfl) (by simp) (.inr (aZ (ho1.eT ho2))) ?_;simp only[mem_cons,not_mem_nil,or_false,forall_eq];refine aC rfl ?_;go_wp2;simp only[bG];refine aK [9] (by kernel_rfl) (by simp) (.inr (aZ (ho1.eT ho2))) ?_;simp only[mem_cons,not_mem_nil,or_false,forall_eq];refine aC rfl ?_;go_wp2;simp only[bG];refine aK [10] (by kernel_rfl) (by simp) (.inr (aZ (ho1.eT ho2))) ?_;simp only[mem_cons,not_mem_nil,or_false,forall_eq];refine aC rfl ?_;go_wp2;simp only[bG]
    have hvb:g'∈([]:List Nat)\/w0.heap.size<=g':=by
     rcases HB2.out with h|h
     ·cases h
     ·right;rw[h];exact ho1.size
    have hvq:g'≠q:=by
     rcases hvb with h|h
     ·rintro rfl;exact hqn h
     ·omega
    refine dV (by kernel_rfl) (.inl (aQ (by kernel_rfl))) ⟨(g',cap'),rfl,?_,?_,?_,by simpa using hvb⟩
    ·exact aG _ HQC.out
    ·exact HO2.out.kept (row:=some q) ⟨rfl,rfl,rfl,by simp[World.setCell],fun k _ hk=>Below.heap_setCell _ _ _ _ (fun e=>hk (by rw[e]))⟩ (.inr (by simpa [Value.ownBlock] using hvq))
    ·exact (ho1.eT (ho2.weak (S':=q::([]:List Nat)) (by simp))).setCell (by simp) _
 | some b =>
  obtain⟨g,cap,rfl,hr,rfl⟩:=HM1.out b rfl;clear HM0 HM1;have HR:=hid hr;clear hr;go_enter Tryz.func71,Tryz.ntmps71
  go_wp2;obtain⟨D,hD,hok,hsz⟩:=HR.out.map;refine kP (G:=Code.wp _ _ _ _) (R:=fun w0=>RA w w0 q [q,g,b] a2 a3 a4 l x (.slice (some ⟨g,0,none⟩) l.length cap) b w.heap.size D) ?_ ?_
  ·have ho:Only [] w (w.alloc (Obj.cells #[Value.int IntKind.i64 x.t,Value.int IntKind.i64 x.i,Value.int IntKind.i64 x.x] 149)):=(Only.refl [] w).alloc _
   have hgs:=HR.out.row.lt;refine⟨alloc_old HQ.out,(HR.out.row.kept ho (by simp)).owns bU (Nat.zero_le _),fun k hk=>?_,gY.kept hD ho (by simp),hok,hsz,bA _ _,by omega,rfl,.inl (by simp),by simp,ho.weak (by simp)⟩
   cases hk
   exact⟨HR.out.qg.symm,by simp;omega,by simp⟩
  ·intro w0 hp
   have HPP:=hid hp;clear hp c1 f1;have d0:=aA HPP.out.qc 0;have b0:=aA HPP.out.box 0;have b1:=aA HPP.out.box 1;have b2:=aA HPP.out.box 2;have hq0:=aD HPP.out.qc;have hB0:=aD HPP.out.box;have hqn:q ∉ [g]:=by simpa using HR.out.qg
   have hBn:w.heap.size ∉ [g]:=by have:=HR.out.row.lt;simp;omega
   refine dA [0,1,2,3,4,5] [8,9,10] (OnlyC [g] w0) (by kernel_rfl) (by kernel_rfl) ?_;simp only[pick,map_cons,map_nil,getD_cons_succ,getD_cons_zero];iterate 6 (refine aJ (fun K hK=>?_);go_simp;refine hK _ ?_;clear hK K)
   refine aN ?_;clear d0 b0 b1 b2;refine Rest.by (X:=Nat × Nat) (fun y a=>(((((a.put (some 20) (.slice (some ⟨w0.heap.size,0,none⟩) 1 1)).put (some 21) (.slice (some ⟨y.1,0,none⟩) ((l).length+1) y.2)).put (some 22) (.pointer (some ⟨q,0,none⟩))).put (some 23) (.pointer (some ⟨q,0,none⟩))))) (fun y w'=>w'.heap[q]? = some (.cells #[.slice (some ⟨y.1,0,none⟩) ((l).length+1) y.2,.map (some (b)),a2,a3,a4] 121 (0,0))/\w'.ownsRow 0 149 3 (.slice (some ⟨y.1,0,none⟩) ((l).length+1) y.2) ((l).length+1) ((l).flatMap GX ++ GX x)/\Only (q::[g]) w0 w'/\(y.1∈[g]\/w0.heap.size<=y.1)) ?_ ?_
   ·rintro⟨g',cap'⟩ w1 ⟨h1,h2,h3,h4⟩
    simp only at h1 h2 h4;simp only[Act.put,List.setIfInBounds_toArray,List.set_cons_succ,List.set_cons_zero]
    have hgq:g'≠q:=by
     rcases h4 with h|h
     ·rintro rfl;exact hqn h
     ·omega
    have hbg:b≠q/\b ∉ [g]:=by
     obtain⟨es,clock,hb,_⟩:=HPP.out.map;refine⟨fun e=>?_,?_⟩
     ·rw[e,HPP.out.qc] at hb;cases hb
     ·intro e;simp at e;rw[e] at hb;obtain⟨cur,hg,_⟩:=HR.out.row;have hg1:=aP.kG HPP.out.own rfl;obtain⟨cur1,hg2,_⟩:=hg1;rw[hb] at hg2;cases hg2
    have hbs:=World.ownsMap.lt HPP.out.map;have hmap1:gY w1 (b) l.length D:=gY.kept HPP.out.map h3 (by intro h;rcases mem_cons.1 h with h|h;exact hbg.1 h;exact hbg.2 h);have hbox1:=h3.got HPP.out.box (by intro h;rcases mem_cons.1 h with h|h;exact HPP.out.bq h;exact hBn h);have hrow1:UA w1 g' cap' (l ++ [x]):=aP.kG (by rw[List.flatMap_append];simpa using h2) (by simp)
    have hbg':b≠g':=by
     obtain⟨es,clock,hb,_⟩:=hmap1;obtain⟨cur,hg,_⟩:=hrow1;intro e;rw[e,hg] at hb;cases hb
    have k0:=aA h1 0;have x0:=aA hbox1 0;have x1:=aA hbox1 1;have x2:=aA hbox1 2;have HH1:=hid h1;have HH4:=hid h4;have HMP:=hid hmap1;have HRW:=hid hrow1;clear h1 h2 h4 hmap1 hbox1 hrow1;go_wp2_with fail
    clear k0 x0 x1 x2;refine (yY q g' cap' (l.length+1) (b) l.length l.length x.t x.i x.x _ (l ++ [x]) D w1 HH1.out rfl rfl (Ne.symm hgq) HRW.out hbg' HMP.out (by simp[maxLen];omega) hw (by omega) (by simp) (by omega)).mono ?_;rintro e w2 ⟨rfl,hrow2,hmap2,ho2⟩;have HR2:=hid hrow2;have HM2:=hid hmap2;clear hrow2 hmap2;have hset:(l ++ [x]).set l.length ⟨x.t,x.i,x.x⟩=l ++ [x]:=by simp
    have hrep:iX w2 q g' cap' (b) a2 a3 a4 (l ++ [x]):=by
     have hk:=HPP.out.ok.snoc x HX.out hw
     have hz:Maps.size (DataW.put D (.int .i64 x.i) (.lit (.int .i64 l.length)))=l.length+1:=by
      rw[Maps.size_put (gY.key _ _ _ _ HMP.out),HPP.out.ok.none x.i HX.out,HPP.out.sz];rfl
     refine⟨?_,?_,⟨_,?_,hk,?_⟩,Ne.symm hgq,by simp;omega⟩
     ·have:=ho2.got HH1.out (by simp only[mem_cons,not_mem_nil,or_false,not_or];exact⟨Ne.symm hgq,Ne.symm hbg.1⟩)
      simpa using this
     ·rw[<-hset];exact HR2.out
     ·rw[length_append];exact HM2.out
     ·rw[hz];simp
    have HRP:=hid hrep;clear hrep
    have hun:sN (l ++ [x]).length (el (l ++ [x])) l.length:=by
     rw[length_append];exact EH HH.out (fun j hj=>by unfold el;simp only[List.getD_eq_getElem?_getD,List.getElem?_append_left hj])
    have HUN:=hid hun;clear hun;go_wp2_with fail
    refine (LH HRP.out (by simp) HUN.out).mono ?_;rintro e w3 ⟨rfl,l',hrep3,ho3,hlen3,hheap3,hmem3⟩;have HR3:=hid hrep3;have HL3:=hid hlen3;have HP3:=hid hheap3;have HM3:=hid hmem3;clear hrep3 hlen3 hheap3 hmem3;go_wp2;go_end0
    refine⟨rfl,[q,g',b],l',.inr ⟨g',cap',_,rfl,HR3.out⟩,?_,?_,by rw[HL3.out];simp,HP3.out,fun e=>by rw[HM3.out e];simp[or_comm]⟩
    ·have hF:∀ k∈q::[g],k∈[q,g,b]\/w.heap.size<=k:=by simp
     have o1:Only [q,g,b] w w1:=HPP.out.only.trans h3 hF;have hs:=HPP.out.only.size
     have hgF:g'∈[q,g,b]\/w.heap.size<=g':=by
      rcases HH4.out with h|h
      ·exact hF g' (List.mem_cons_of_mem _ h)
      ·exact .inr (by omega)
     have hbF:=HPP.out.bm;refine (o1.trans ho2 ?_).trans ho3 ?_
     all_goals
      intro k hk;simp only[mem_cons,not_mem_nil,or_false] at hk;rcases hk with rfl|rfl
      ·exact hgF
      ·exact hbF
    ·have hs:=HPP.out.only.size
     intro k hk;simp only[mem_cons,not_mem_nil,or_false] at hk;rcases hk with rfl|rfl|rfl
     ·exact .inl (by simp)
     ·rcases HH4.out with h|h
      ·left;simp at h;simp[h]
      ·exact .inr (by omega)
     ·exact HPP.out.bm
   ·have hC0:Only [g] w0 w0:=Only.refl _ _
    refine aK [6] (by kernel_rfl) (by simp) (.inr (aZ hC0.drew)) ?_;simp only[mem_cons,not_mem_nil,or_false,forall_eq];refine aC rfl ?_;go_wp2;simp only[bG];refine CX (G:=eU _ _ _ _ _ _ _ _ _) ?_;intro w1 hn1 ho1 hs1;refine aK [7] (by kernel_rfl) (by simp) (.inr (aZ (ho1.weak (by simp)))) ?_;simp only[mem_cons,not_mem_nil,or_false,forall_eq];refine aC rfl ?_;have hown1:w1.ownsRow 0 149 3 (.slice (some ⟨g,0,none⟩) l.length cap) (l).length ((l).flatMap GX):=HPP.out.own.kept (row:=none) ⟨ho1.os,ho1.tape,ho1.output,ho1.size,fun k hk _=>ho1.block k hk (by simp)⟩ (by right;simp[Value.ownBlock]);refine cB rfl (.tmp 18) (.tmp 20) 116 rfl 149 i0 (.agg #[.int .i64 0,.int .i64 0,.int .i64 0]) 3 24 Tryz.underlying116 HI0.out HZ0.out HZ1.out HZ2.out rfl (by decide) _ _ _ rfl hown1 ⟨w0.heap.size,0,none⟩ 1 1 (GX x) rfl rfl ?_ (by simp[GX,Value.oneCell']) (by simp[maxLen];omega) (by omega) (by decide) ?_
    ·intro j u hj
     have hadd:(⟨w0.heap.size,0,none⟩:Addr).add j=⟨w0.heap.size,j,none⟩:=by unfold Addr.add;split<;>simp_all
     rw[hadd,aA hn1];simpa [GX] using hj
    intro g' cap' w2 hown2 ho2 hblk;have ho2:Only [g] w1 w2:=ho2;have hqc2:=ho2.got (ho1.got HPP.out.qc (by simp)) hqn;have d0:=aA hqc2 0;have f0:=aM hqc2 0;have HO2:=hid hown2;have HB2:=hid hblk;have HQC:=hid hqc2;clear hown2 hblk hqc2;go_wp2;simp only[bG];refine aK [8] (by kernel_rfl) (by simp) (.inr (aZ (ho1.eT ho2))) ?_;simp only[mem_cons,not_mem_nil,or_false,forall_eq];refine aC rfl ?_;go_wp2;simp only[bG];refine aK [9] (by kernel_rfl) (by simp) (.inr (aZ (ho1.eT ho2))) ?_;simp only[mem_cons,not_mem_nil,or_false,forall_eq];refine aC rfl ?_;go_wp2;simp only[bG];refine aK [10] (by kernel_rfl) (by simp) (.inr (aZ (ho1.eT ho2))) ?_;simp only[mem_cons,not_mem_nil,or_false,forall_eq];refine aC rfl ?_;go_wp2;simp only[bG]
    have hvb:g'∈[g]\/w0.heap.size<=g':=by
     rcases HB2.out with h|h
     ·cases h;left;simp
     ·right;rw[h];exact ho1.size
    have hvq:g'≠q:=by
     rcases hvb with h|h
     ·rintro rfl;exact hqn h
     ·omega
    refine dV (by kernel_rfl) (.inl (aQ (by kernel_rfl))) ⟨(g',cap'),rfl,?_,?_,?_,by simpa using hvb⟩
    ·exact aG _ HQC.out
    ·exact HO2.out.kept (row:=some q) ⟨rfl,rfl,rfl,by simp[World.setCell],fun k _ hk=>Below.heap_setCell _ _ _ _ (fun e=>hk (by rw[e]))⟩ (.inr (by simpa [Value.ownBlock] using hvq))
    ·exact (ho1.eT (ho2.weak (S':=q::[g]) (by simp))).setCell (by simp) _
end
section
theorem IL.ids {D:DataW Unit} {l:List Ev} (h:IL D l) {e f:Ev} (he:e∈l) (hf:f∈l) (hi:e.i=f.i):e=f:=by
 obtain⟨a,ha⟩:=List.mem_iff_getElem?.1 he;obtain⟨b,hb⟩:=List.mem_iff_getElem?.1 hf;by_cases hab:a=b
 ·subst hab;rw[ha] at hb;cases hb;rfl
 ·exact absurd hi (h.apart ha hb hab)
theorem vC {D:DataW Unit} {l:List Ev} (h:IL D l) {k:Nat} (hk:k+1=l.length) (e:Ev):e∈l.take k↔e∈l/\e.i≠(el l k).i:=by
 have hl:l[k]? = some (el l k):=bX (by omega);constructor
 ·intro he
  obtain⟨j,hj⟩:=List.mem_iff_getElem?.1 he
  have hjk:j<k:=by
   rcases Nat.lt_or_ge j k with h|h
   ·exact h
   ·rw[List.getElem?_take,if_neg (by omega)] at hj;cases hj
  rw[List.getElem?_take,if_pos hjk] at hj;exact⟨List.mem_of_getElem? hj,h.apart hj hl (by omega)⟩
 ·rintro⟨he,hne⟩
  obtain⟨j,hj⟩:=List.mem_iff_getElem?.1 he
  have hjk:j<k:=by
   have:j<l.length:=(List.getElem?_eq_some_iff.1 hj).1;by_cases hjk:j=k
   ·subst hjk;rw[hl] at hj;cases hj;exact absurd rfl hne
   ·omega
  exact List.mem_iff_getElem?.2 ⟨j,by rw[List.getElem?_take,if_pos hjk];exact hj⟩
theorem IL.drop {D:DataW Unit} {l:List Ev} (h:IL D l) {k:Nat} (hk:k+1=l.length):IL (D.del (.int .i64 (el l k).i)) (l.take k):=by
 have hl:l[k]? = some (el l k):=bX (by omega);refine⟨h.isMap.del _,?_,?_,fun e he=>h.wf e (List.mem_of_mem_take he)⟩
 ·intro i e hi
  have hik:i<k:=by
   rcases Nat.lt_or_ge i k with h|h
   ·exact h
   ·rw[List.getElem?_take,if_neg (by omega)] at hi;cases hi
  rw[List.getElem?_take,if_pos hik] at hi;have hne:=h.apart hi hl (by omega);rw[Maps.has_del_other (iJ hne),Maps.atKey_del_other (iJ hne)];exact h.at_ i e hi
 ·intro j hj
  by_cases hjk:j=(el l k).i
  ·subst hjk;exact Maps.has_del_same
  ·rw[Maps.has_del_other (iJ hjk)]
   refine h.none j (fun e he hej=>?_);exact hj e ((vC h hk e).2 ⟨he,by rw[hej];exact hjk⟩) hej
theorem GY {l:List Ev} {k j:Nat} (h:j<k):el (l.take k) j=el l j:=by
 unfold el;simp only[List.getD_eq_getElem?_getD,List.getElem?_take,if_pos h]
theorem LV {w:World} {q g cap b:Nat} {a2 a3 a4:Value} {l:List Ev} (h:iX w q g cap b a2 a3 a4 l) {i:Nat} (hi:i<l.length) (hheap:Heap l.length (el l)) :
  Calls Tryz.prog 59 #[.pointer (some ⟨q,0,none⟩),.int .i64 i] w fun e w'=>e=.returned (.tuple #[]) /\
   ∃ l',iX w' q g cap b a2 a3 a4 l'/\Only [q,g,b] w w'/\l'.length+1=l.length/\Heap l'.length (el l')/\∀ e,e∈l'↔e∈l/\e.i≠(el l i).i:=by
 have hbg:=h.bg;have hqg:=h.qg;have hn:=h.le;obtain⟨k,hk⟩:∃ k,l.length=k+1:=⟨l.length-1,by omega⟩;have hkl:k<l.length:=by omega
 have HH:=hid hheap;clear hheap;have hqs:=aD h.qc;have c0:=aA h.qc 0;have HR:=hid h;clear h;have HK:=hid hk;rw[hk] at c0;clear hk;have hkb:k<=1000000:=by have:=HK.out;omega
 have hlt:(k:Int)<(k:Int)+1:=by omega
 go_enter Tryz.func59,Tryz.ntmps59
 go_wp2_with fail
 refine (AB HR.out (bX hi) (bX hkl)).mono ?_;rintro e w1 ⟨rfl,hrep1,ho1⟩;have HR1:=hid hrep1;clear hrep1 c0;have d0:=aA HR1.out.qc 0;have d1:=aA HR1.out.qc 1;have f0:=aM HR1.out.qc 0;rw[cO,HK.out] at d0;have hqs1:=aD HR1.out.qc;have hgs1:=HR1.out.row.lt;have hk1:k<(sw l i k).length:=by rw[cO];exact hkl
 have r0:=HR1.out.row.cell bU (bX hk1) (j:=0) (by omega);have r1:=HR1.out.row.cell bU (bX hk1) (j:=1) (by omega);have r2:=HR1.out.row.cell bU (bX hk1) (j:=2) (by omega);simp only[Nat.add_zero,GX] at r0 r1 r2;go_wp2;refine aL [0,1,2,3,4,5,6,7,8,9,10,11,12] [13] (by kernel_rfl) (by kernel_rfl) ?_;simp only[pick,map_cons,map_nil,getD_cons_succ,getD_cons_zero];iterate 12 (refine wpQuiet_step (fun K hK=>?_);go_simp;refine hK _ ?_;clear hK K)
 refine fQ rfl 131 #[.agg #[.int .i64 (el (sw l i k) k).t,.int .i64 (el (sw l i k) k).i,.int .i64 (el (sw l i k) k).x]] (fun _=>by kernel_rfl) (.int .i64 (el (sw l i k) k).i) (gG fun w' _=>P9 _ _ _ w') ?_;refine wpQuiet_nil ?_;intro w2 hw2;have ho2:=aI hw2;clear hw2;clear r0 r1 r2 d0 d1 f0;obtain⟨D,hD,hok,hsz⟩:=HR1.out.map;have HD:=hid hD;have HOK:=hid hok;have HSZ:=hid hsz;clear hD hok hsz;have hek:el (sw l i k) k=el l i:=by rw[ES l i k k hi hkl,if_pos rfl]
 have HEK:=hid hek;clear hek;refine wpList_delete_own _ rfl _ _ 117 3 rfl 3 (Maps.int_keyed Tryz.underlying3) Tryz.underlying117 (plainElem Tryz.prog 3) b _ D rfl (gY.kept HD.out ho2 (by simp)) _ (.int .i64 (el (sw l i k) k).i) rfl (Maps.keyOf_int_mk Tryz.underlying3 (HOK.out.wf _ (List.mem_of_getElem? (bX hk1)))) ?_;intro w3 hm3 ht3;have ho3:Only [b] w2 w3:=(Only.refl [b] w2).grown ht3.grown (by simp);have HM3:=hid hm3;clear hm3 ht3;have hq3:=ho3.got (ho2.got HR1.out.qc (by simp)) (by simpa using Ne.symm hbg.2);rw[cO,HK.out] at hq3;have d0:=aA hq3 0;have f0:=aM hq3 0;have HQ3:=hid hq3;clear hq3;have hcap:k+1<=cap:=by obtain⟨cur,_,_,h,_⟩:=HR.out.row;have:=HK.out;omega
 have hcm:cap<=9223372036854775807:=by obtain⟨cur,_,_,_,h,_⟩:=HR.out.row;simp only[maxLen] at h;omega
 have hsz':Maps.size (D.del (.int .i64 (el (sw l i k) k).i))=k:=by
  have t0:=gY.key _ _ _ _ HD.out;have:=Maps.size_del (k:=.int .i64 (el (sw l i k) k).i) t0;rw[(HOK.out.at_ k _ (bX hk1)).1,HSZ.out,cO,HK.out] at this;simpa using this
 have HSZ':=hid hsz';clear hsz';have hlen:((sw l i k).take k).length=k:=by rw[List.length_take,cO,HK.out];omega
 have HLEN:=hid hlen;clear hlen
 have hmem:∀ e,e∈(sw l i k).take k↔e∈l/\e.i≠(el l i).i:=fun e=>by
  rw[vC HOK.out (by rw[cO,HK.out]) e,BK hi hkl,HEK.out]
 have HMEM:=hid hmem;clear hmem;by_cases hik:i<k
 ·have hdn:oU ((sw l i k).take k).length (el ((sw l i k).take k)) i i:=by
   rw[HLEN.out];refine GL (SY HH.out (by omega)) hik (fun j hj hji=>?_);rw[GY hj,ES l i k j hi hkl,if_neg (by omega),if_neg hji]
  have HDN:=hid hdn;clear hdn;go_wp2_with fail
  have hrep4:iX (w3.setCell ⟨q,0,none⟩ (.slice (some ⟨g,0,none⟩) k cap)) q g cap b a2 a3 a4 ((sw l i k).take k):=by
   have hoc:Only [q] w3 (w3.setCell ⟨q,0,none⟩ (.slice (some ⟨g,0,none⟩) k cap)):=(Only.refl [q] w3).setCell (by simp) _;refine⟨?_,((((HR1.out.row.kept ho2 (by simp)).kept ho3 (by simpa using Ne.symm hbg.1)).kept hoc (by simpa using Ne.symm hqg)).take bU k),⟨_,?_,HOK.out.drop (by rw[cO,HK.out]),by rw[HLEN.out];exact HSZ'.out⟩,hqg,by rw[HLEN.out];exact hkb⟩
   ·rw[HLEN.out];exact aG _ HQ3.out
   ·have:=gY.tight (gY.kept HM3.out hoc (by simpa using hbg.2))
    rw[HSZ'.out] at this;rw[HLEN.out];exact this
  have HR4:=hid hrep4;clear hrep4;refine (ZE HR4.out (by rw[HLEN.out];exact hik) HDN.out).mono ?_;rintro e w5 ⟨rfl,l5,hrep5,ho5,hl5,hu5,hm5⟩;have HR5:=hid hrep5;have HL5:=hid hl5;have HU5:=hid hu5;have HM5:=hid hm5;clear hrep5 hl5 hu5 hm5;go_wp2_with fail
  refine (LH HR5.out (by rw[HL5.out,HLEN.out];exact hik) HU5.out).mono ?_;rintro e w6 ⟨rfl,l6,hrep6,ho6,hl6,hh6,hm6⟩;have HR6:=hid hrep6;have HL6:=hid hl6;have HU6:=hid hh6;have HM6:=hid hm6;clear hrep6 hl6 hh6 hm6;go_wp2;go_end0
  refine⟨rfl,l6,HR6.out,?_,by rw[HL6.out,HL5.out,HLEN.out,HK.out],HU6.out,fun e=>by rw[HM6.out e,HM5.out e,HMEM.out e]⟩;have o2:Only [q,g,b] w w2:=(ho1.weak (by simp)).aB ho2;have o3:Only [q,g,b] w w3:=o2.trans ho3 (by simp);have o4:=o3.setCell (p:=⟨q,0,none⟩) (by simp) (.slice (some ⟨g,0,none⟩) k cap);exact (o4.trans ho5 (by simp)).trans ho6 (by simp)
 ·have hie:i=k:=by have:=HK.out;omega
  have hik':¬ (i:Int)<(k:Int):=by omega
  have HIE:=hid hie;clear hie;go_wp2;go_end0
  have hoc:Only [q] w3 (w3.setCell ⟨q,0,none⟩ (.slice (some ⟨g,0,none⟩) k cap)):=(Only.refl [q] w3).setCell (by simp) _;refine⟨rfl,(sw l i k).take k,⟨?_,((((HR1.out.row.kept ho2 (by simp)).kept ho3 (by simpa using Ne.symm hbg.1)).kept hoc (by simpa using Ne.symm hqg)).take bU k),⟨_,?_,HOK.out.drop (by rw[cO,HK.out]),by rw[HLEN.out];exact HSZ'.out⟩,hqg,by rw[HLEN.out];exact hkb⟩,?_,by rw[HLEN.out,HK.out],?_,HMEM.out⟩
  ·rw[HLEN.out];exact aG _ HQ3.out
  ·have:=gY.tight (gY.kept HM3.out hoc (by simpa using hbg.2))
   rw[HSZ'.out] at this;rw[HLEN.out];exact this
  ·have o2:Only [q,g,b] w w2:=(ho1.weak (by simp)).aB ho2
   have o3:Only [q,g,b] w w3:=o2.trans ho3 (by simp);exact o3.setCell (p:=⟨q,0,none⟩) (by simp) (.slice (some ⟨g,0,none⟩) k cap)
  ·rw[HLEN.out]
   intro j h1 h2;rw[GY h2,GY (by omega),ES l i k j hi hkl,ES l i k _ hi hkl,if_neg (by omega),if_neg (by have:=HIE.out;omega),if_neg (by omega),if_neg (by have:=HIE.out;omega)];exact HH.out j h1 (by omega)
end
end Go.Proofs.YthbgcpfklmlnjaaGreat
