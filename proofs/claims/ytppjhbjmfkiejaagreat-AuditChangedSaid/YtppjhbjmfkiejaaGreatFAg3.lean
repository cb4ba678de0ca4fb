/- Ag3 Ag4 Ag5 Ag6 -/
import Derived.Test.YtppjhbjmfkiejaaGreatFAg1
namespace Go.Proofs.YtppjhbjmfkiejaaGreat
open List (length_append mem_cons not_mem_nil)
set_option maxRecDepth 100000
set_option maxHeartbeats 1600000
open Go.RowKit
theorem DT (x y:Ev) (w:World) :
  Calls Tryz.prog 169 #[.agg #[.int .i64 x.t,.int .i64 x.i,.int .i64 x.x],.agg #[.int .i64 y.t,.int .i64 y.i,.int .i64 y.x]] w fun e w'=>e=.returned (.bool (RZ x y))/\Below w.heap.size w w':=by
 have hb:=sN (x:=x) (y:=y);by_cases h:x.t=y.t
 focus
  have h':(x.t != y.t)=false:=by simpa using h
  have H:Hid (RZ x y=decide (x.i<y.i)):=by unfold RZ;rw[if_neg (by simp[h])];exact rfl
 rotate_left
 focus
  have h':(x.t != y.t)=true:=by simpa using h
  have H:Hid (RZ x y=decide (x.t<y.t)):=by unfold RZ;rw[if_pos h'];exact rfl
 rotate_left
 all_goals
  clear hb h;go_enter Tryz.func169,Tryz.ntmps169
  go_wp2;go_ret
  exact⟨by rw[H.out];rfl,((Below.refl _ _).alloc (Nat.le_refl _) _).alloc (by simp) _⟩
theorem MO {w:World} {q g cap b:Nat} {a2 a3 a4:Value} {l:List Ev} (h:jD w q g cap b a2 a3 a4 l) {i:Nat} (hi:i<l.length) (hu:tZ l.length (el l) i) :
  Calls Tryz.prog 87 #[.pointer (some ⟨q,0,none⟩),.int .i64 i] w fun e w'=>e=.returned (.tuple #[]) /\
   ∃ l',jD w' q g cap b a2 a3 a4 l'/\Oy [g,b] w w'/\l'.length=l.length/\Heap l'.length (el l')/\∀ e,e∈l'↔e∈l:=by
 have hn:=h.le;have H:=aA h;have HU:=aA hu;clear h hu;go_enter Tryz.func87,Tryz.ntmps87
 go_wp2;go_loopw [1] (fun vi wr=>∃ (k:Nat) (l':List Ev),vi=.int .i64 k/\k<l'.length/\jD wr q g cap b a2 a3 a4 l'/\Oy [g,b] w wr/\l'.length=l.length/\tZ l'.length (el l') k/\(∀ e,e∈l'↔e∈l)) (fun vi _=>(intOf vi).toNat)
 case atStart=>exact⟨i,l,rfl,hi,H.out,aR _ _,rfl,HU.out,fun _=>Iff.rfl⟩
 case round =>
  obtain⟨k,l',rfl,hk,hrep,hol,hlen,hup,hmem⟩:=hrel;have HR:=aA hrep;have HO:=aA hol;have HL:=aA hlen;have HP:=aA hup;have HM:=aA hmem;clear hrep hol hlen hup hmem;have hkb:k<=1000000:=by have:=HL.out;omega
  by_cases h0:k=0
  ·subst h0
   go_wp2;go_end0
   exact⟨rfl,l',HR.out,HO.out,HL.out,PV HP.out (.inl rfl),HM.out⟩
  ·have hkp:0<k:=by omega
   obtain⟨p,hp,hpi⟩:∃ p:Nat,p=(k-1) / 2/\((k:Int)-1) / 2=(p:Int):=⟨(k-1) / 2,rfl,by omega⟩;have hpl:p<l'.length:=by omega
   have HPp:=aA hp;have HPI:=aA hpi;clear hp hpi;have hpk:p<k:=by have:=HPp.out;omega
   have hqs:=aF HR.out.qc;have hgs:=HR.out.row.lt;have c0:=aC HR.out.qc 0;have r0:=HR.out.row.cell cB (cZ hk) (j:=0) (by omega);have r1:=HR.out.row.cell cB (cZ hk) (j:=1) (by omega);have r2:=HR.out.row.cell cB (cZ hk) (j:=2) (by omega);have s0:=HR.out.row.cell cB (cZ hpl) (j:=0) (by omega);have s1:=HR.out.row.cell cB (cZ hpl) (j:=1) (by omega);have s2:=HR.out.row.cell cB (cZ hpl) (j:=2) (by omega);simp only[Nat.add_zero,IZ] at r0 s0 r1 r2 s1 s2;have hcl:l'.length<=1000000:=by have:=HL.out;omega
   go_wp2;rw[HPI.out];refine aP [0,1,2,3,4,5,6,7,8,9,10,11,12,13,14,15,16] [] (by kernel_rfl) (by kernel_rfl) ?_;simp only[bV];iterate 15 (refine wpQuiet_step (fun K hK=>?_);go_simp;refine hK _ ?_;clear hK K)
   refine gF rfl 169 #[.agg #[.int .i64 (el l' k).t,.int .i64 (el l' k).i,.int .i64 (el l' k).x],.agg #[.int .i64 (el l' p).t,.int .i64 (el l' p).i,.int .i64 (el l' p).x]] (fun _=>by kernel_rfl) (.bool (RZ (el l' k) (el l' p))) (gL fun w' _=>DT _ _ w') ?_;iterate 1 (refine wpQuiet_step (fun K hK=>?_);go_simp;refine hK _ ?_;clear hK K)
   refine wpQuiet_nil ?_;intro w1 hw1;have ho1:=aN hw1;clear hw1;clear c0 r0 r1 r2 s0 s1 s2
   cases hb:RZ (el l' k) (el l' p)
   ·have HB:=aA hb;clear hb
    go_wp2;refine bodyPost_ret (results_none rfl _ _ _) rfl ?_;exact⟨rfl,l',HR.out.kept ho1 (by simp) (by simp) (by simp),HO.out.aB ho1,HL.out,PV HP.out (.inr (by rw[<-HPp.out];exact sN.1 HB.out)),HM.out⟩
   ·have HB:=aA hb;clear hb
    go_wp2_with fail
    refine (BF (HR.out.kept ho1 (by simp) (by simp) (by simp)) (cZ hk) (cZ hpl)).mono ?_;rintro e w2 ⟨rfl,hrep2,ho2⟩;have HR2:=aA hrep2;clear hrep2;go_wp2;go_roundw
    case rel =>
     refine⟨p,sw l' k p,rfl,by rw[dF];exact hpl,HR2.out,(HO.out.aB ho1).trans ho2 (fun _ h=>.inl h),by rw[dF];exact HL.out,?_,fun e=>(CP hk hpl).trans (HM.out e)⟩;rw[dF];exact up_step HP.out hkp hk HPp.out (LP.1 HB.out) (fun j=>FN l' k p j hk hpl)
    case measure=>simp[intOf];omega
def sP (n:Nat) (f:Nat->Ev) (k c bl:Nat):Prop:=
 (c=k\/((c-1) / 2=k/\0<c/\c<n/\¬ ge (f c) (f k)))/\∀ j,0<j->j<n->(j-1) / 2=k->j<bl->ge (f j) (f c)
theorem EG (n:Nat) (f:Nat->Ev) (k:Nat):sP n f k k (2*k+1):=⟨.inl rfl,fun j _ _ _ _=>by omega⟩
theorem K6 {n:Nat} {f:Nat->Ev} {k c bl:Nat} (h:sP n f k c bl) (h1:2*k+1<=bl) (h2:bl<=2*k+2) (h3:bl<n) (hb:¬ ge (f bl) (f c)):sP n f k bl (bl+1):=by
 obtain⟨ha,hc⟩:=h;refine⟨.inr ⟨by omega,by omega,h3,?_⟩,?_⟩
 ·rcases ha with rfl|⟨_,_,_,ha⟩
  ·exact hb
  ·intro hg;exact hb (lU hg (nU ha))
 ·intro j j1 j2 j3 j4
  by_cases h:j=bl
  ·subst h;exact RG _
  ·exact lU (hc j j1 j2 j3 (by omega)) (nU hb)
theorem NV {n:Nat} {f:Nat->Ev} {k c bl:Nat} (h:sP n f k c bl) (hb:ge (f bl) (f c)):sP n f k c (bl+1):=by
 refine⟨h.1,fun j j1 j2 j3 j4=>?_⟩;by_cases h':j=bl
 ·subst h';exact hb
 ·exact h.2 j j1 j2 j3 (by omega)
theorem down_any {w:World} {q g cap b:Nat} {a2 a3 a4:Value} {l:List Ev} (h:jD w q g cap b a2 a3 a4 l) {i:Nat} (hi:i<l.length) (hu:pQ l.length (el l) i i) :
  Calls Tryz.prog 86 #[.pointer (some ⟨q,0,none⟩),.int .i64 i] w fun e w'=>e=.returned (.tuple #[]) /\
   ∃ l',jD w' q g cap b a2 a3 a4 l'/\Oy [g,b] w w'/\l'.length=l.length/\tZ l'.length (el l') i/\∀ e,e∈l'↔e∈l:=by
 have hn:=h.le;have H:=aA h;have HU:=aA hu;clear h hu;go_enter Tryz.func86,Tryz.ntmps86
 go_wp2;go_loopw [1] (fun vi wr=>∃ (k:Nat) (l':List Ev),vi=.int .i64 k/\k<l'.length/\jD wr q g cap b a2 a3 a4 l'/\Oy [g,b] w wr/\l'.length=l.length/\pQ l'.length (el l') k i/\(∀ e,e∈l'↔e∈l)) (fun vi _=>l.length-(intOf vi).toNat)
 case atStart=>exact⟨i,l,rfl,hi,H.out,aR _ _,rfl,HU.out,fun _=>Iff.rfl⟩
 case round =>
  obtain⟨k,l',rfl,hk,hrep,hol,hlen,hup,hmem⟩:=hrel;obtain⟨wo,rfl⟩:∃ wo:World,wo=wr:=⟨_,rfl⟩;have HR:=aA hrep;have HO:=aA hol;have HL:=aA hlen;have HP:=aA hup;have HM:=aA hmem;clear hrep hol hlen hup hmem;have hkb:k<=1000000:=by have:=HL.out;omega
  have hcl:l'.length<=1000000:=by have:=HL.out;omega
  go_wp2;go_loopw [4,5] (fun vf vb wi=>∃ (c bl:Nat),vf=.int .i64 c/\vb=.int .i64 bl/\2*k+1<=bl/\bl<=2*k+3/\c<l'.length/\sP l'.length (el l') k c bl/\Oy [] wo wi) (fun _ vb _=>2*k+3-(intOf vb).toNat)
  case atStart=>exact⟨k,2*k+1,rfl,by go_num,by omega,by omega,hk,EG _ _ _,aR _ _⟩
  case round =>
   obtain⟨c,bl,rfl,rfl,hb1,hb2,hcl',hfo,hoi⟩:=hrel;have HF:=aA hfo;have HI:=aA hoi;clear hfo hoi;have hrep:=HR.out.kept HI.out (by simp) (by simp) (by simp);have HRI:=aA hrep;clear hrep;have c0:=aC HRI.out.qc 0;have hqs:=aF HRI.out.qc;have hgs:=HRI.out.row.lt;by_cases hin:bl<=2*k+2/\bl<l'.length
   ·obtain⟨hin1,hin2⟩:=hin
    have r0:=HRI.out.row.cell cB (cZ hin2) (j:=0) (by omega);have r1:=HRI.out.row.cell cB (cZ hin2) (j:=1) (by omega);have r2:=HRI.out.row.cell cB (cZ hin2) (j:=2) (by omega);have s0:=HRI.out.row.cell cB (cZ hcl') (j:=0) (by omega);have s1:=HRI.out.row.cell cB (cZ hcl') (j:=1) (by omega);have s2:=HRI.out.row.cell cB (cZ hcl') (j:=2) (by omega);simp only[Nat.add_zero,IZ] at r0 s0 r1 r2 s1 s2;go_wp2;refine aP [0,1,2,3,4,5,6,7,8,9,10,11,12,13,14,15] [] (by kernel_rfl) (by kernel_rfl) ?_;simp only[bV];iterate 15 (refine wpQuiet_step (fun K hK=>?_);go_simp;refine hK _ ?_;clear hK K)
    refine gF rfl 169 #[.agg #[.int .i64 (el l' bl).t,.int .i64 (el l' bl).i,.int .i64 (el l' bl).x],.agg #[.int .i64 (el l' c).t,.int .i64 (el l' c).i,.int .i64 (el l' c).x]] (fun _=>by kernel_rfl) (.bool (RZ (el l' bl) (el l' c))) (gL fun w' _=>DT _ _ w') ?_;refine wpQuiet_nil ?_;intro w1 hw1;have ho1:=aN hw1;clear hw1;clear c0 r0 r1 r2 s0 s1 s2
    cases hb:RZ (el l' bl) (el l' c)
    ·have HB:=aA hb;clear hb
     go_wp2;go_roundw
     case rel=>exact⟨c,bl+1,rfl,by go_num,by omega,by omega,hcl',NV HF.out (sN.1 HB.out),HI.out.aB ho1⟩
     case measure=>simp[intOf];omega
    ·have HB:=aA hb;clear hb
     go_wp2;go_roundw
     case rel=>exact⟨bl,bl+1,rfl,by go_num,by omega,by omega,hin2,K6 HF.out hb1 hin1 hin2 (LP.1 HB.out),HI.out.aB ho1⟩
     case measure=>simp[intOf];omega
   ·have hch:∀ j,0<j->j<l'.length->(j-1) / 2=k->ge (el l' j) (el l' c):=fun j j1 j2 j3=>HF.out.2 j j1 j2 j3 (by omega)
    have HCH:=aA hch;clear hch;by_cases hck:c=k
    ·subst hck
     by_cases hle:bl<=2*c+2
     all_goals
      go_wp2;refine bodyPost_ret (results_none rfl _ _ _) rfl ?_;exact⟨rfl,l',HRI.out,HO.out.aB HI.out,HL.out,U7 HP.out HCH.out,HM.out⟩
    ·have hce:((c:Int) == (k:Int))=false:=by simp;omega
     obtain⟨p1,p2,p3,p4⟩:=HF.out.1.resolve_left hck;have P1:=aA p1;have P4:=aA p4;clear p1 p4;by_cases hle:bl<=2*k+2
     all_goals
      go_wp2_with fail
      refine (BF HRI.out (cZ hk) (cZ hcl')).mono ?_;rintro e w2 ⟨rfl,hrep2,ho2⟩;have HR2:=aA hrep2;clear hrep2;go_wp2;go_roundw
      case rel =>
       refine⟨c,sw l' k c,rfl,by rw[dF];exact hcl',HR2.out,(HO.out.aB HI.out).trans ho2 (fun _ h=>.inl h),by rw[dF];exact HL.out,?_,fun e=>(CP hk hcl').trans (HM.out e)⟩;rw[dF];exact U6 HP.out p2 p3 P1.out P4.out HCH.out (fun j=>FN l' k c j hk hcl')
      case measure=>have:=HL.out;have:=P1.out;simp[intOf];omega
def oD (w:World) (q:Nat) (F:List Nat) (a2 a3 a4:Value) (l:List Ev):Prop:=
 (F=[q]/\l=[]/\w.heap[q]? = some (.cells #[.slice none 0 0,.map none,a2,a3,a4] 164 (0,0))) \/
 (∃ g cap b,F=[q,g,b]/\jD w q g cap b a2 a3 a4 l)
theorem JI.nil:JI (.map []:DataW Unit) []:=⟨Maps.isMap_empty,by simp,fun _ _=>rfl,by simp⟩
theorem JI.snoc {D:DataW Unit} {l:List Ev} (h:JI D l) (x:Ev) (hx:∀ e∈l,e.i≠x.i) (hw:(Lit.int .i64 x.i).wf=true):JI (D.put (.int .i64 x.i) (.lit (.int .i64 l.length))) (l ++ [x]):=by
 refine⟨h.isMap.put _ _,?_,?_,?_⟩
 ·intro i e hi
  by_cases hil:i<l.length
  ·rw[List.getElem?_append_left hil] at hi
   have hne:=hx e (List.mem_of_getElem? hi);rw[Maps.has_put_other (iP hne),Maps.atKey_put_other (iP hne)];exact h.at_ i e hi
  ·rw[List.getElem?_append_right (by omega)] at hi
   have h0:i-l.length=0:=by
    rcases Nat.eq_zero_or_pos (i-l.length) with h|h
    ·exact h
    ·rw[List.getElem?_eq_none (by simp;omega)] at hi;cases hi
   rw[h0] at hi;simp at hi;subst hi;have:i=l.length:=by omega
   subst this;exact⟨Maps.has_put_same h.isMap (isKey _) _,Maps.atKey_put_same h.isMap (isKey _) _ _⟩
 ·intro k hk
  rw[Maps.has_put_other (iP (hk x (by simp)).symm)];exact h.none k (fun e he=>hk e (by simp[he]))
 ·intro e he
  rcases List.mem_append.1 he with h'|h'
  ·exact h.wf e h'
  ·simp at h';subst h';exact hw
theorem Tryz.info190:(Tryz.prog.info? 190).map (fun i=>(i.zero,i.size,i.bytes))=some (some (.agg #[.int .i64 0,.int .i64 0,.int .i64 0]),3,24):=by kernel_rfl
structure SL (w w0:World) (q:Nat) (F:List Nat) (a2 a3 a4:Value) (l:List Ev) (x:Ev) (v:Value) (b B:Nat) (D:DataW Unit):Prop where
 qc:w0.heap[q]? = some (.cells #[v,.map (some b),a2,a3,a4] 164 (0,0))
 own:w0.ownsRow 0 190 3 v l.length (l.flatMap IZ)
 vq:∀ k,v.ownBlock=some k->k≠q/\k≠B/\k∈F
 map:iE w0 b l.length D
 ok:JI D l
 sz:Maps.size D=l.length
 box:w0.heap[B]? = some (.cells #[.int .i64 x.t,.int .i64 x.i,.int .i64 x.x] 190 (0,0))
 bq:B≠q
 bB:B=w.heap.size
 bm:b∈F\/w.heap.size<=b
 qF:q∈F
 only:Oy F w w0
theorem X0 {w:World} {q:Nat} {F:List Nat} {a2 a3 a4:Value} {l:List Ev} (h:oD w q F a2 a3 a4 l) (x:Ev) (hx:∀ e∈l,e.i≠x.i) (hw:(Lit.int .i64 x.i).wf=true) (hn:l.length<1000000) (hheap:Heap l.length (el l)) :
  Calls Tryz.prog 84 #[.pointer (some ⟨q,0,none⟩),.agg #[.int .i64 x.t,.int .i64 x.i,.int .i64 x.x]] w fun e w'=>e=.returned (.tuple #[]) /\
   ∃ F' l',oD w' q F' a2 a3 a4 l'/\Oy F w w'/\(∀ k∈F',k∈F\/w.heap.size<=k)/\l'.length=l.length+1/\Heap l'.length (el l')/\∀ e,e∈l'↔e=x\/e∈l:=by
 have HX:=aA hx;have HH:=aA hheap;clear hx hheap;have hmm:=@run_makeMap Tryz.prog;have hen:=fun (r:Option Nat) (w:World)=>run_eql_map_nil (P:=Tryz.prog) w 160 _ _ r Tryz.underlying160;obtain⟨i0,hi0,hz0,hz1,hz2⟩:=info_parts Tryz.info190;have HI0:=aA hi0;have HZ0:=aA hz0;have HZ1:=aA hz1;have HZ2:=aA hz2;clear hi0 hz0 hz1 hz2
 have pre:Hid (∃ v m,w.heap[q]? = some (.cells #[v,.map m,a2,a3,a4] 164 (0,0))/\(m=none->l=[]/\v=.slice none 0 0/\F=[q])/\∀ b,m=some b->∃ g cap,F=[q,g,b]/\jD w q g cap b a2 a3 a4 l/\v=.slice (some ⟨g,0,none⟩) l.length cap):=by
  rcases h with ⟨h1,h2,h3⟩|⟨g,cap,b,h1,h2⟩
  ·exact⟨_,_,h3,fun _=>⟨h2,rfl,h1⟩,fun _ h=>by cases h⟩
  ·exact⟨_,_,h2.qc,fun h=>(by cases h),fun b' hb'=>by cases hb';exact⟨g,cap,h1,h2,rfl⟩⟩
 obtain⟨v,m,hq,hm0,hm1⟩:=pre.out;clear pre h;have hqs:=aF hq;have c1:=aC hq 1;have f1:=aM hq 1;have HQ:=aA hq;clear hq;have HM0:=aA hm0;have HM1:=aA hm1;clear hm0 hm1
 cases m with
 | none =>
  obtain⟨hl0,rfl,rfl⟩:=HM0.out rfl;have HL0:=aA hl0;clear HM0 HM1 hl0;go_enter Tryz.func84,Tryz.ntmps84
  go_wp2;refine kZ (G:=Code.wp _ _ _ _) (R:=fun w0=>SL w w0 q [q] a2 a3 a4 l x (.slice none 0 0) (w.heap.size+1) w.heap.size (.map [])) ?_ ?_
  ·have e1:=aH (o:=1) (.map (some (w.heap.size+1))) HQ.out
   have hs:(w.setCell ⟨q,1,none⟩ (.map (some (w.heap.size+1)))).heap.size=w.heap.size:=size_setCell _ _ _;refine⟨?_,by rw[HL0.out];exact World.ownsRow_nil _ _ _ _,fun k hk=>(by cases hk),?_,by rw[HL0.out];exact JI.nil,by rw[HL0.out];rfl,?_,by omega,rfl,.inr (by omega),by simp,?_⟩
   ·exact alloc_old (alloc_old e1)
   ·have:=World.ownsMap_made (H:=Unit) ((w.setCell ⟨q,1,none⟩ (.map (some (w.heap.size+1)))).alloc (Obj.cells #[Value.int IntKind.i64 x.t,Value.int IntKind.i64 x.i,Value.int IntKind.i64 x.x] 190)) Tryz.prog 3 (plainElem Tryz.prog 3)
    simp only[World.size_alloc,hs] at this;rw[HL0.out];exact this
   ·have:=bG (w.setCell ⟨q,1,none⟩ (.map (some (w.heap.size+1)))) (Obj.cells #[Value.int IntKind.i64 x.t,Value.int IntKind.i64 x.i,Value.int IntKind.i64 x.x] 190)
    rw[hs] at this;exact alloc_old this
   ·exact (((aR [q] w).setCell (by simp) _).alloc _).alloc _
  ·intro w0 hp
   have HPP:=aA hp;clear hp c1 f1;have d0:=aC HPP.out.qc 0;have b0:=aC HPP.out.box 0;have b1:=aC HPP.out.box 1;have b2:=aC HPP.out.box 2;have hq0:=aF HPP.out.qc;have hB0:=aF HPP.out.box;have hqn:q ∉ ([]:List Nat):=by simp
   have hBn:w.heap.size ∉ ([]:List Nat):=by simp
   refine dG [0,1,2,3,4,5] [8,9,10] (OnlyC ([]:List Nat) w0) (by kernel_rfl) (by kernel_rfl) ?_;simp only[bV];iterate 6 (refine aJ (fun K hK=>?_);go_simp;refine hK _ ?_;clear hK K)
   refine aK ?_;clear d0 b0 b1 b2;refine Rest.by (X:=Nat × Nat) (fun y a=>(((((a.put (some 20) (.slice (some ⟨w0.heap.size,0,none⟩) 1 1)).put (some 21) (.slice (some ⟨y.1,0,none⟩) ((l).length+1) y.2)).put (some 22) (.pointer (some ⟨q,0,none⟩))).put (some 23) (.pointer (some ⟨q,0,none⟩))))) (fun y w'=>w'.heap[q]? = some (.cells #[.slice (some ⟨y.1,0,none⟩) ((l).length+1) y.2,.map (some (w.heap.size+1)),a2,a3,a4] 164 (0,0))/\w'.ownsRow 0 190 3 (.slice (some ⟨y.1,0,none⟩) ((l).length+1) y.2) ((l).length+1) ((l).flatMap IZ ++ IZ x)/\Oy (q::([]:List Nat)) w0 w'/\(y.1∈([]:List Nat)\/w0.heap.size<=y.1)) ?_ ?_
   ·rintro⟨g',cap'⟩ w1 ⟨h1,h2,h3,h4⟩
    simp only at h1 h2 h4;simp only[Act.put,List.setIfInBounds_toArray,List.set_cons_succ,List.set_cons_zero]
    have hgq:g'≠q:=by
     rcases h4 with h|h
     ·rintro rfl;exact hqn h
     ·omega
    have hbg:w.heap.size+1≠q/\w.heap.size+1 ∉ ([]:List Nat):=by
     obtain⟨es,clock,hb,_⟩:=HPP.out.map;refine⟨fun e=>?_,?_⟩
     ·rw[e,HPP.out.qc] at hb;cases hb
     ·simp
    have hbs:=World.ownsMap.lt HPP.out.map;have hmap1:iE w1 (w.heap.size+1) l.length (.map []:DataW Unit):=iE.kept HPP.out.map h3 (by intro h;rcases mem_cons.1 h with h|h;exact hbg.1 h;exact hbg.2 h);have hbox1:=h3.got HPP.out.box (by intro h;rcases mem_cons.1 h with h|h;exact HPP.out.bq h;exact hBn h);have hrow1:VO w1 g' cap' (l ++ [x]):=aO.kN (by rw[List.flatMap_append];simpa using h2) (by simp)
    have hbg':w.heap.size+1≠g':=by
     obtain⟨es,clock,hb,_⟩:=hmap1;obtain⟨cur,hg,_⟩:=hrow1;intro e;rw[e,hg] at hb;cases hb
    have k0:=aC h1 0;have x0:=aC hbox1 0;have x1:=aC hbox1 1;have x2:=aC hbox1 2;have HH1:=aA h1;have HH4:=aA h4;have HMP:=aA hmap1;have HRW:=aA hrow1;clear h1 h2 h4 hmap1 hbox1 hrow1;go_wp2_with fail
    clear k0 x0 x1 x2;refine (zM q g' cap' (l.length+1) (w.heap.size+1) l.length l.length x.t x.i x.x _ (l ++ [x]) (.map []:DataW Unit) w1 HH1.out rfl rfl (Ne.symm hgq) HRW.out hbg' HMP.out (by simp[maxLen];omega) hw (by omega) (by simp) (by omega)).mono ?_;rintro e w2 ⟨rfl,hrow2,hmap2,ho2⟩;have HR2:=aA hrow2;have HM2:=aA hmap2;clear hrow2 hmap2;have hset:(l ++ [x]).set l.length ⟨x.t,x.i,x.x⟩=l ++ [x]:=by simp
    have hrep:jD w2 q g' cap' (w.heap.size+1) a2 a3 a4 (l ++ [x]):=by
     have hk:=HPP.out.ok.snoc x HX.out hw
     have hz:Maps.size (DataW.put (.map []:DataW Unit) (.int .i64 x.i) (.lit (.int .i64 l.length)))=l.length+1:=by
      rw[Maps.size_put (iE.key _ _ _ _ HMP.out),HPP.out.ok.none x.i HX.out,HPP.out.sz];rfl
     refine⟨?_,?_,⟨_,?_,hk,?_⟩,Ne.symm hgq,by simp;omega⟩
     ·have:=ho2.got HH1.out (by simp only[mem_cons,not_mem_nil,or_false,not_or];exact⟨Ne.symm hgq,Ne.symm hbg.1⟩)
      simpa using this
     ·rw[<-hset];exact HR2.out
     ·rw[length_append];exact HM2.out
     ·rw[hz];simp
    have HRP:=aA hrep;clear hrep
    have hun:tZ (l ++ [x]).length (el (l ++ [x])) l.length:=by
     rw[length_append];exact FC HH.out (fun j hj=>by unfold el;simp only[List.getD_eq_getElem?_getD,List.getElem?_append_left hj])
    have HUN:=aA hun;clear hun;go_wp2_with fail
    refine (MO HRP.out (by simp) HUN.out).mono ?_;rintro e w3 ⟨rfl,l',hrep3,ho3,hlen3,hheap3,hmem3⟩;have HR3:=aA hrep3;have HL3:=aA hlen3;have HP3:=aA hheap3;have HM3:=aA hmem3;clear hrep3 hlen3 hheap3 hmem3;go_wp2;go_end0
    refine⟨rfl,[q,g',w.heap.size+1],l',.inr ⟨g',cap',_,rfl,HR3.out⟩,?_,?_,by rw[HL3.out];simp,HP3.out,fun e=>by rw[HM3.out e];simp[or_comm]⟩
    ·have hF:∀ k∈q::([]:List Nat),k∈[q]\/w.heap.size<=k:=by simp
     have o1:Oy [q] w w1:=HPP.out.only.trans h3 hF;have hs:=HPP.out.only.size
     have hgF:g'∈[q]\/w.heap.size<=g':=by
      rcases HH4.out with h|h
      ·exact hF g' (List.mem_cons_of_mem _ h)
      ·exact .inr (by omega)
     have hbF:=HPP.out.bm;refine (o1.trans ho2 ?_).trans ho3 ?_
     all_goals
      intro k hk;simp only[mem_cons,not_mem_nil,or_false] at hk;rcases hk with rfl|rfl
      ·exact hgF
      ·exact hbF
    ·have hs:=HPP.out.only.size
     intro k hk;simp only[mem_cons,not_mem_nil,or_false] at hk;rcases hk with rfl|rfl|rfl
     ·exact .inl (by simp)
     ·rcases HH4.out with h|h
      ·left;simp at h
      ·exact .inr (by omega)
     ·exact HPP.out.bm
   ·have hC0:Oy ([]:List Nat) w0 w0:=aR _ _
    refine aL [6] (by kernel_rfl) (by simp) (.inr (bC hC0.drew)) ?_;simp only[eD];refine aD rfl ?_;go_wp2;simp only[bA];refine DW (G:=fD _ _ _ _ _ _ _ _ _) ?_;intro w1 hn1 ho1 hs1;refine aL [7] (by kernel_rfl) (by simp) (.inr (bC (ho1.weak (by simp)))) ?_;simp only[eD];refine aD rfl ?_;have hown1:w1.ownsRow 0 190 3 (.slice none 0 0) (l).length ((l).flatMap IZ):=HPP.out.own.kept (row:=none) ⟨ho1.os,ho1.tape,ho1.output,ho1.size,fun k hk _=>ho1.block k hk (by simp)⟩ (by left;rfl);refine dB rfl (.tmp 18) (.tmp 20) 159 rfl 190 i0 (.agg #[.int .i64 0,.int .i64 0,.int .i64 0]) 3 24 Tryz.underlying159 HI0.out HZ0.out HZ1.out HZ2.out rfl (by decide) _ _ _ rfl hown1 ⟨w0.heap.size,0,none⟩ 1 1 (IZ x) rfl rfl ?_ (by simp[IZ,Value.oneCell']) (by simp[maxLen];omega) (by omega) (by decide) ?_
    ·intro j u hj
     have hadd:(⟨w0.heap.size,0,none⟩:Addr).add j=⟨w0.heap.size,j,none⟩:=by unfold Addr.add;split<;>simp_all
     rw[hadd,aC hn1];simpa [IZ] using hj
    intro g' cap' w2 hown2 ho2 hblk;have ho2:Oy ([]:List Nat) w1 w2:=ho2;have hqc2:=ho2.got (ho1.got HPP.out.qc (by simp)) hqn;have d0:=aC hqc2 0;have f0:=aM hqc2 0;have HO2:=aA hown2;have HB2:=aA hblk;have HQC:=aA hqc2;clear hown2 hblk hqc2;go_wp2;simp only[bA];refine aL [8] (by kernel_rfl) (by simp) (.inr (bC (ho1.fB ho2))) ?_;simp only[eD];refine aD rfl ?_;go_wp2;simp only[bA];refine aL [9] (by kernel_rfl) (by simp) (.inr (bC (ho1.fB ho2))) ?_;simp only[eD];refine aD rfl ?_;go_wp2;simp only[bA];refine aL [10] (by kernel_rfl) (by simp) (.inr (bC (ho1.fB ho2))) ?_;simp only[eD];refine aD rfl ?_;go_wp2;simp only[bA]
    have hvb:g'∈([]:List Nat)\/w0.heap.size<=g':=by
     rcases HB2.out with h|h
     ·cases h
     ·right;rw[h];exact ho1.size
    have hvq:g'≠q:=by
     rcases hvb with h|h
     ·rintro rfl;exact hqn h
     ·omega
    refine dX (by kernel_rfl) (.inl (aT (by kernel_rfl))) ⟨(g',cap'),rfl,?_,?_,?_,by simpa using hvb⟩
    ·exact aH _ HQC.out
    ·exact HO2.out.kept (row:=some q) ⟨rfl,rfl,rfl,by simp[World.setCell],fun k _ hk=>Below.heap_setCell _ _ _ _ (fun e=>hk (by rw[e]))⟩ (.inr (by simpa [Value.ownBlock] using hvq))
    ·exact (ho1.fB (ho2.weak (S':=q::([]:List Nat)) (by simp))).setCell (by simp) _
 | some b =>
  obtain⟨g,cap,rfl,hr,rfl⟩:=HM1.out b rfl;clear HM0 HM1;have HR:=aA hr;clear hr;go_enter Tryz.func84,Tryz.ntmps84
  go_wp2;obtain⟨D,hD,hok,hsz⟩:=HR.out.map;refine kZ (G:=Code.wp _ _ _ _) (R:=fun w0=>SL w w0 q [q,g,b] a2 a3 a4 l x (.slice (some ⟨g,0,none⟩) l.length cap) b w.heap.size D) ?_ ?_
  ·have ho:Oy [] w (w.alloc (Obj.cells #[Value.int IntKind.i64 x.t,Value.int IntKind.i64 x.i,Value.int IntKind.i64 x.x] 190)):=(aR [] w).alloc _
   have hgs:=HR.out.row.lt;refine⟨alloc_old HQ.out,(HR.out.row.kept ho (by simp)).owns cB (Nat.zero_le _),fun k hk=>?_,iE.kept hD ho (by simp),hok,hsz,bG _ _,by omega,rfl,.inl (by simp),by simp,ho.weak (by simp)⟩
   cases hk
   exact⟨HR.out.qg.symm,by simp;omega,by simp⟩
  ·intro w0 hp
   have HPP:=aA hp;clear hp c1 f1;have d0:=aC HPP.out.qc 0;have b0:=aC HPP.out.box 0;have b1:=aC HPP.out.box 1;have b2:=aC HPP.out.box 2;have hq0:=aF HPP.out.qc;have hB0:=aF HPP.out.box;have hqn:q ∉ [g]:=by simpa using HR.out.qg
   have hBn:w.heap.size ∉ [g]:=by have:=HR.out.row.lt;simp;omega
   refine dG [0,1,2,3,4,5] [8,9,10] (OnlyC [g] w0) (by kernel_rfl) (by kernel_rfl) ?_;simp only[bV];iterate 6 (refine aJ (fun K hK=>?_);go_simp;refine hK _ ?_;clear hK K)
   refine aK ?_;clear d0 b0 b1 b2;refine Rest.by (X:=Nat × Nat) (fun y a=>(((((a.put (some 20) (.slice (some ⟨w0.heap.size,0,none⟩) 1 1)).put (some 21) (.slice (some ⟨y.1,0,none⟩) ((l).length+1) y.2)).put (some 22) (.pointer (some ⟨q,0,none⟩))).put (some 23) (.pointer (some ⟨q,0,none⟩))))) (fun y w'=>w'.heap[q]? = some (.cells #[.slice (some ⟨y.1,0,none⟩) ((l).length+1) y.2,.map (some (b)),a2,a3,a4] 164 (0,0))/\w'.ownsRow 0 190 3 (.slice (some ⟨y.1,0,none⟩) ((l).length+1) y.2) ((l).length+1) ((l).flatMap IZ ++ IZ x)/\Oy (q::[g]) w0 w'/\(y.1∈[g]\/w0.heap.size<=y.1)) ?_ ?_
   ·rintro⟨g',cap'⟩ w1 ⟨h1,h2,h3,h4⟩
    simp only at h1 h2 h4;simp only[Act.put,List.setIfInBounds_toArray,List.set_cons_succ,List.set_cons_zero]
    have hgq:g'≠q:=by
     rcases h4 with h|h
     ·rintro rfl;exact hqn h
     ·omega
    have hbg:b≠q/\b ∉ [g]:=by
     obtain⟨es,clock,hb,_⟩:=HPP.out.map;refine⟨fun e=>?_,?_⟩
     ·rw[e,HPP.out.qc] at hb;cases hb
     ·intro e;simp at e;rw[e] at hb;obtain⟨cur,hg,_⟩:=HR.out.row;have hg1:=aO.kN HPP.out.own rfl;obtain⟨cur1,hg2,_⟩:=hg1;rw[hb] at hg2;cases hg2
    have hbs:=World.ownsMap.lt HPP.out.map;have hmap1:iE w1 (b) l.length D:=iE.kept HPP.out.map h3 (by intro h;rcases mem_cons.1 h with h|h;exact hbg.1 h;exact hbg.2 h);have hbox1:=h3.got HPP.out.box (by intro h;rcases mem_cons.1 h with h|h;exact HPP.out.bq h;exact hBn h);have hrow1:VO w1 g' cap' (l ++ [x]):=aO.kN (by rw[List.flatMap_append];simpa using h2) (by simp)
    have hbg':b≠g':=by
     obtain⟨es,clock,hb,_⟩:=hmap1;obtain⟨cur,hg,_⟩:=hrow1;intro e;rw[e,hg] at hb;cases hb
    have k0:=aC h1 0;have x0:=aC hbox1 0;have x1:=aC hbox1 1;have x2:=aC hbox1 2;have HH1:=aA h1;have HH4:=aA h4;have HMP:=aA hmap1;have HRW:=aA hrow1;clear h1 h2 h4 hmap1 hbox1 hrow1;go_wp2_with fail
    clear k0 x0 x1 x2;refine (zM q g' cap' (l.length+1) (b) l.length l.length x.t x.i x.x _ (l ++ [x]) D w1 HH1.out rfl rfl (Ne.symm hgq) HRW.out hbg' HMP.out (by simp[maxLen];omega) hw (by omega) (by simp) (by omega)).mono ?_;rintro e w2 ⟨rfl,hrow2,hmap2,ho2⟩;have HR2:=aA hrow2;have HM2:=aA hmap2;clear hrow2 hmap2;have hset:(l ++ [x]).set l.length ⟨x.t,x.i,x.x⟩=l ++ [x]:=by simp
    have hrep:jD w2 q g' cap' (b) a2 a3 a4 (l ++ [x]):=by
     have hk:=HPP.out.ok.snoc x HX.out hw
     have hz:Maps.size (DataW.put D (.int .i64 x.i) (.lit (.int .i64 l.length)))=l.length+1:=by
      rw[Maps.size_put (iE.key _ _ _ _ HMP.out),HPP.out.ok.none x.i HX.out,HPP.out.sz];rfl
     refine⟨?_,?_,⟨_,?_,hk,?_⟩,Ne.symm hgq,by simp;omega⟩
     ·have:=ho2.got HH1.out (by simp only[mem_cons,not_mem_nil,or_false,not_or];exact⟨Ne.symm hgq,Ne.symm hbg.1⟩)
      simpa using this
     ·rw[<-hset];exact HR2.out
     ·rw[length_append];exact HM2.out
     ·rw[hz];simp
    have HRP:=aA hrep;clear hrep
    have hun:tZ (l ++ [x]).length (el (l ++ [x])) l.length:=by
     rw[length_append];exact FC HH.out (fun j hj=>by unfold el;simp only[List.getD_eq_getElem?_getD,List.getElem?_append_left hj])
    have HUN:=aA hun;clear hun;go_wp2_with fail
    refine (MO HRP.out (by simp) HUN.out).mono ?_;rintro e w3 ⟨rfl,l',hrep3,ho3,hlen3,hheap3,hmem3⟩;have HR3:=aA hrep3;have HL3:=aA hlen3;have HP3:=aA hheap3;have HM3:=aA hmem3;clear hrep3 hlen3 hheap3 hmem3;go_wp2;go_end0
    refine⟨rfl,[q,g',b],l',.inr ⟨g',cap',_,rfl,HR3.out⟩,?_,?_,by rw[HL3.out];simp,HP3.out,fun e=>by rw[HM3.out e];simp[or_comm]⟩
    ·have hF:∀ k∈q::[g],k∈[q,g,b]\/w.heap.size<=k:=by simp
     have o1:Oy [q,g,b] w w1:=HPP.out.only.trans h3 hF;have hs:=HPP.out.only.size
     have hgF:g'∈[q,g,b]\/w.heap.size<=g':=by
      rcases HH4.out with h|h
      ·exact hF g' (List.mem_cons_of_mem _ h)
      ·exact .inr (by omega)
     have hbF:=HPP.out.bm;refine (o1.trans ho2 ?_).trans ho3 ?_
     all_goals
      intro k hk;simp only[mem_cons,not_mem_nil,or_false] at hk;rcases hk with rfl|rfl
      ·exact hgF
      ·exact hbF
    ·have hs:=HPP.out.only.size
     intro k hk;simp only[mem_cons,not_mem_nil,or_false] at hk;rcases hk with rfl|rfl|rfl
     ·exact .inl (by simp)
     ·rcases HH4.out with h|h
      ·left;simp at h;simp[h]
      ·exact .inr (by omega)
     ·exact HPP.out.bm
   ·have hC0:Oy [g] w0 w0:=aR _ _
    refine aL [6] (by kernel_rfl) (by simp) (.inr (bC hC0.drew)) ?_;simp only[eD];refine aD rfl ?_;go_wp2;simp only[bA];refine DW (G:=fD _ _ _ _ _ _ _ _ _) ?_;intro w1 hn1 ho1 hs1;refine aL [7] (by kernel_rfl) (by simp) (.inr (bC (ho1.weak (by simp)))) ?_;simp only[eD];refine aD rfl ?_;have hown1:w1.ownsRow 0 190 3 (.slice (some ⟨g,0,none⟩) l.length cap) (l).length ((l).flatMap IZ):=HPP.out.own.kept (row:=none) ⟨ho1.os,ho1.tape,ho1.output,ho1.size,fun k hk _=>ho1.block k hk (by simp)⟩ (by right;simp[Value.ownBlock]);refine dB rfl (.tmp 18) (.tmp 20) 159 rfl 190 i0 (.agg #[.int .i64 0,.int .i64 0,.int .i64 0]) 3 24 Tryz.underlying159 HI0.out HZ0.out HZ1.out HZ2.out rfl (by decide) _ _ _ rfl hown1 ⟨w0.heap.size,0,none⟩ 1 1 (IZ x) rfl rfl ?_ (by simp[IZ,Value.oneCell']) (by simp[maxLen];omega) (by omega) (by decide) ?_
    ·intro j u hj
     have hadd:(⟨w0.heap.size,0,none⟩:Addr).add j=⟨w0.heap.size,j,none⟩:=by unfold Addr.add;split<;>simp_all
     rw[hadd,aC hn1];simpa [IZ] using hj
    intro g' cap' w2 hown2 ho2 hblk;have ho2:Oy [g] w1 w2:=ho2;have hqc2:=ho2.got (ho1.got HPP.out.qc (by simp)) hqn;have d0:=aC hqc2 0;have f0:=aM hqc2 0;have HO2:=aA hown2;have HB2:=aA hblk;have HQC:=aA hqc2;clear hown2 hblk hqc2;go_wp2;simp only[bA];refine aL [8] (by kernel_rfl) (by simp) (.inr (bC (ho1.fB ho2))) ?_;simp only[eD];refine aD rfl ?_;go_wp2;simp only[bA];refine aL [9] (by kernel_rfl) (by simp) (.inr (bC (ho1.fB ho2))) ?_;simp only[eD];refine aD rfl ?_;go_wp2;simp only[bA];refine aL [10] (by kernel_rfl) (by simp) (.inr (bC (ho1.fB ho2))) ?_;simp only[eD];refine aD rfl ?_;go_wp2;simp only[bA]
    have hvb:g'∈[g]\/w0.heap.size<=g':=by
     rcases HB2.out with h|h
     ·cases h;left;simp
     ·right;rw[h];exact ho1.size
    have hvq:g'≠q:=by
     rcases hvb with h|h
     ·rintro rfl;exact hqn h
     ·omega
    refine dX (by kernel_rfl) (.inl (aT (by kernel_rfl))) ⟨(g',cap'),rfl,?_,?_,?_,by simpa using hvb⟩
    ·exact aH _ HQC.out
    ·exact HO2.out.kept (row:=some q) ⟨rfl,rfl,rfl,by simp[World.setCell],fun k _ hk=>Below.heap_setCell _ _ _ _ (fun e=>hk (by rw[e]))⟩ (.inr (by simpa [Value.ownBlock] using hvq))
    ·exact (ho1.fB (ho2.weak (S':=q::[g]) (by simp))).setCell (by simp) _
theorem JI.ids {D:DataW Unit} {l:List Ev} (h:JI D l) {e f:Ev} (he:e∈l) (hf:f∈l) (hi:e.i=f.i):e=f:=by
 obtain⟨a,ha⟩:=List.mem_iff_getElem?.1 he;obtain⟨b,hb⟩:=List.mem_iff_getElem?.1 hf;by_cases hab:a=b
 ·subst hab;rw[ha] at hb;cases hb;rfl
 ·exact absurd hi (h.apart ha hb hab)
theorem vV {D:DataW Unit} {l:List Ev} (h:JI D l) {k:Nat} (hk:k+1=l.length) (e:Ev):e∈l.take k↔e∈l/\e.i≠(el l k).i:=by
 have hl:l[k]? = some (el l k):=cZ (by omega);constructor
 ·intro he
  obtain⟨j,hj⟩:=List.mem_iff_getElem?.1 he
  have hjk:j<k:=by
   rcases Nat.lt_or_ge j k with h|h
   ·exact h
   ·rw[List.getElem?_take,if_neg (by omega)] at hj;cases hj
  rw[List.getElem?_take,if_pos hjk] at hj;exact⟨List.mem_of_getElem? hj,h.apart hj hl (by omega)⟩
 ·rintro⟨he,hne⟩
  obtain⟨j,hj⟩:=List.mem_iff_getElem?.1 he
  have hjk:j<k:=by
   have:j<l.length:=(List.getElem?_eq_some_iff.1 hj).1;by_cases hjk:j=k
   ·subst hjk;rw[hl] at hj;cases hj;exact absurd rfl hne
   ·omega
  exact List.mem_iff_getElem?.2 ⟨j,by rw[List.getElem?_take,if_pos hjk];exact hj⟩
theorem JI.drop {D:DataW Unit} {l:List Ev} (h:JI D l) {k:Nat} (hk:k+1=l.length):JI (D.del (.int .i64 (el l k).i)) (l.take k):=by
 have hl:l[k]? = some (el l k):=cZ (by omega);refine⟨h.isMap.del _,?_,?_,fun e he=>h.wf e (List.mem_of_mem_take he)⟩
 ·intro i e hi
  have hik:i<k:=by
   rcases Nat.lt_or_ge i k with h|h
   ·exact h
   ·rw[List.getElem?_take,if_neg (by omega)] at hi;cases hi
  rw[List.getElem?_take,if_pos hik] at hi;have hne:=h.apart hi hl (by omega);rw[Maps.has_del_other (iP hne),Maps.atKey_del_other (iP hne)];exact h.at_ i e hi
 ·intro j hj
  by_cases hjk:j=(el l k).i
  ·subst hjk;exact Maps.has_del_same
  ·rw[Maps.has_del_other (iP hjk)]
   refine h.none j (fun e he hej=>?_);exact hj e ((vV h hk e).2 ⟨he,by rw[hej];exact hjk⟩) hej
theorem I4 {l:List Ev} {k j:Nat} (h:j<k):el (l.take k) j=el l j:=by
 unfold el;simp only[List.getD_eq_getElem?_getD,List.getElem?_take,if_pos h]
theorem MV {w:World} {q g cap b:Nat} {a2 a3 a4:Value} {l:List Ev} (h:jD w q g cap b a2 a3 a4 l) {i:Nat} (hi:i<l.length) (hheap:Heap l.length (el l)) :
  Calls Tryz.prog 71 #[.pointer (some ⟨q,0,none⟩),.int .i64 i] w fun e w'=>e=.returned (.tuple #[]) /\
   ∃ l',jD w' q g cap b a2 a3 a4 l'/\Oy [q,g,b] w w'/\l'.length+1=l.length/\Heap l'.length (el l')/\∀ e,e∈l'↔e∈l/\e.i≠(el l i).i:=by
 have hbg:=h.bg;have hqg:=h.qg;have hn:=h.le;obtain⟨k,hk⟩:∃ k,l.length=k+1:=⟨l.length-1,by omega⟩;have hkl:k<l.length:=by omega
 have HH:=aA hheap;clear hheap;have hqs:=aF h.qc;have c0:=aC h.qc 0;have HR:=aA h;clear h;have HK:=aA hk;rw[hk] at c0;clear hk;have hkb:k<=1000000:=by have:=HK.out;omega
 have hlt:(k:Int)<(k:Int)+1:=by omega
 go_enter Tryz.func71,Tryz.ntmps71
 go_wp2_with fail
 refine (BF HR.out (cZ hi) (cZ hkl)).mono ?_;rintro e w1 ⟨rfl,hrep1,ho1⟩;have HR1:=aA hrep1;clear hrep1 c0;have d0:=aC HR1.out.qc 0;have d1:=aC HR1.out.qc 1;have f0:=aM HR1.out.qc 0;rw[dF,HK.out] at d0;have hqs1:=aF HR1.out.qc;have hgs1:=HR1.out.row.lt;have hk1:k<(sw l i k).length:=by rw[dF];exact hkl
 have r0:=HR1.out.row.cell cB (cZ hk1) (j:=0) (by omega);have r1:=HR1.out.row.cell cB (cZ hk1) (j:=1) (by omega);have r2:=HR1.out.row.cell cB (cZ hk1) (j:=2) (by omega);simp only[Nat.add_zero,IZ] at r0 r1 r2;go_wp2;refine aP [0,1,2,3,4,5,6,7,8,9,10,11,12] [13] (by kernel_rfl) (by kernel_rfl) ?_;simp only[bV];iterate 12 (refine wpQuiet_step (fun K hK=>?_);go_simp;refine hK _ ?_;clear hK K)
 refine gF rfl 170 #[.agg #[.int .i64 (el (sw l i k) k).t,.int .i64 (el (sw l i k) k).i,.int .i64 (el (sw l i k) k).x]] (fun _=>by kernel_rfl) (.int .i64 (el (sw l i k) k).i) (gL fun w' _=>Q9 _ _ _ w') ?_;refine wpQuiet_nil ?_;intro w2 hw2;have ho2:=aN hw2;clear hw2;clear r0 r1 r2 d0 d1 f0;obtain⟨D,hD,hok,hsz⟩:=HR1.out.map;have HD:=aA hD;have HOK:=aA hok;have HSZ:=aA hsz;clear hD hok hsz;have hek:el (sw l i k) k=el l i:=by rw[FN l i k k hi hkl,if_pos rfl]
 have HEK:=aA hek;clear hek;refine wpList_delete_own _ rfl _ _ 160 3 rfl 3 (Maps.int_keyed Tryz.underlying3) Tryz.underlying160 (plainElem Tryz.prog 3) b _ D rfl (iE.kept HD.out ho2 (by simp)) _ (.int .i64 (el (sw l i k) k).i) rfl (Maps.keyOf_int_mk Tryz.underlying3 (HOK.out.wf _ (List.mem_of_getElem? (cZ hk1)))) ?_;intro w3 hm3 ht3;have ho3:Oy [b] w2 w3:=(aR [b] w2).grown ht3.grown (by simp);have HM3:=aA hm3;clear hm3 ht3;have hq3:=ho3.got (ho2.got HR1.out.qc (by simp)) (by simpa using Ne.symm hbg.2);rw[dF,HK.out] at hq3;have d0:=aC hq3 0;have f0:=aM hq3 0;have HQ3:=aA hq3;clear hq3;have hcap:k+1<=cap:=by obtain⟨cur,_,_,h,_⟩:=HR.out.row;have:=HK.out;omega
 have hcm:cap<=9223372036854775807:=by obtain⟨cur,_,_,_,h,_⟩:=HR.out.row;simp only[maxLen] at h;omega
 have hsz':Maps.size (D.del (.int .i64 (el (sw l i k) k).i))=k:=by
  have t0:=iE.key _ _ _ _ HD.out;have:=Maps.size_del (k:=.int .i64 (el (sw l i k) k).i) t0;rw[(HOK.out.at_ k _ (cZ hk1)).1,HSZ.out,dF,HK.out] at this;simpa using this
 have HSZ':=aA hsz';clear hsz';have hlen:((sw l i k).take k).length=k:=by rw[List.length_take,dF,HK.out];omega
 have HLEN:=aA hlen;clear hlen
 have hmem:∀ e,e∈(sw l i k).take k↔e∈l/\e.i≠(el l i).i:=fun e=>by
  rw[vV HOK.out (by rw[dF,HK.out]) e,CP hi hkl,HEK.out]
 have HMEM:=aA hmem;clear hmem;by_cases hik:i<k
 ·have hdn:pQ ((sw l i k).take k).length (el ((sw l i k).take k)) i i:=by
   rw[HLEN.out];refine IQ (UR HH.out (by omega)) hik (fun j hj hji=>?_);rw[I4 hj,FN l i k j hi hkl,if_neg (by omega),if_neg hji]
  have HDN:=aA hdn;clear hdn;go_wp2_with fail
  have hrep4:jD (w3.setCell ⟨q,0,none⟩ (.slice (some ⟨g,0,none⟩) k cap)) q g cap b a2 a3 a4 ((sw l i k).take k):=by
   have hoc:Oy [q] w3 (w3.setCell ⟨q,0,none⟩ (.slice (some ⟨g,0,none⟩) k cap)):=(aR [q] w3).setCell (by simp) _;refine⟨?_,((((HR1.out.row.kept ho2 (by simp)).kept ho3 (by simpa using Ne.symm hbg.1)).kept hoc (by simpa using Ne.symm hqg)).take cB k),⟨_,?_,HOK.out.drop (by rw[dF,HK.out]),by rw[HLEN.out];exact HSZ'.out⟩,hqg,by rw[HLEN.out];exact hkb⟩
   ·rw[HLEN.out];exact aH _ HQ3.out
   ·have:=iE.tight (iE.kept HM3.out hoc (by simpa using hbg.2))
    rw[HSZ'.out] at this;rw[HLEN.out];exact this
  have HR4:=aA hrep4;clear hrep4;refine (down_any HR4.out (by rw[HLEN.out];exact hik) HDN.out).mono ?_;rintro e w5 ⟨rfl,l5,hrep5,ho5,hl5,hu5,hm5⟩;have HR5:=aA hrep5;have HL5:=aA hl5;have HU5:=aA hu5;have HM5:=aA hm5;clear hrep5 hl5 hu5 hm5;go_wp2_with fail
  refine (MO HR5.out (by rw[HL5.out,HLEN.out];exact hik) HU5.out).mono ?_;rintro e w6 ⟨rfl,l6,hrep6,ho6,hl6,hh6,hm6⟩;have HR6:=aA hrep6;have HL6:=aA hl6;have HU6:=aA hh6;have HM6:=aA hm6;clear hrep6 hl6 hh6 hm6;go_wp2;go_end0
  refine⟨rfl,l6,HR6.out,?_,by rw[HL6.out,HL5.out,HLEN.out,HK.out],HU6.out,fun e=>by rw[HM6.out e,HM5.out e,HMEM.out e]⟩;have o2:Oy [q,g,b] w w2:=(ho1.weak (by simp)).aB ho2;have o3:Oy [q,g,b] w w3:=o2.trans ho3 (by simp);have o4:=o3.setCell (p:=⟨q,0,none⟩) (by simp) (.slice (some ⟨g,0,none⟩) k cap);exact (o4.trans ho5 (by simp)).trans ho6 (by simp)
 ·have hie:i=k:=by have:=HK.out;omega
  have hik':¬ (i:Int)<(k:Int):=by omega
  have HIE:=aA hie;clear hie;go_wp2;go_end0
  have hoc:Oy [q] w3 (w3.setCell ⟨q,0,none⟩ (.slice (some ⟨g,0,none⟩) k cap)):=(aR [q] w3).setCell (by simp) _;refine⟨rfl,(sw l i k).take k,⟨?_,((((HR1.out.row.kept ho2 (by simp)).kept ho3 (by simpa using Ne.symm hbg.1)).kept hoc (by simpa using Ne.symm hqg)).take cB k),⟨_,?_,HOK.out.drop (by rw[dF,HK.out]),by rw[HLEN.out];exact HSZ'.out⟩,hqg,by rw[HLEN.out];exact hkb⟩,?_,by rw[HLEN.out,HK.out],?_,HMEM.out⟩
  ·rw[HLEN.out];exact aH _ HQ3.out
  ·have:=iE.tight (iE.kept HM3.out hoc (by simpa using hbg.2))
   rw[HSZ'.out] at this;rw[HLEN.out];exact this
  ·have o2:Oy [q,g,b] w w2:=(ho1.weak (by simp)).aB ho2
   have o3:Oy [q,g,b] w w3:=o2.trans ho3 (by simp);exact o3.setCell (p:=⟨q,0,none⟩) (by simp) (.slice (some ⟨g,0,none⟩) k cap)
  ·rw[HLEN.out]
   intro j h1 h2;rw[I4 h2,I4 (by omega),FN l i k j hi hkl,FN l i k _ hi hkl,if_neg (by omega),if_neg (by have:=HIE.out;omega),if_neg (by omega),if_neg (by have:=HIE.out;omega)];exact HH.out j h1 (by omega)
end Go.Proofs.YtppjhbjmfkiejaaGreat
