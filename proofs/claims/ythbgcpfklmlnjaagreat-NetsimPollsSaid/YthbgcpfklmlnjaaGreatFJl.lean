/- Jl Jm -/
import Derived.Test.YthbgcpfklmlnjaaGreatFJk
namespace Go.Proofs.YthbgcpfklmlnjaaGreat
open List (getElem?_map getElem_mem map_cons map_nil mem_cons mem_map mem_singleton)
set_option maxRecDepth 100000
set_option maxHeartbeats 8000000
section
section
open Go.RowKit Go.Sort
def Pl.bs (P:Pl):List Nat:=P.ps.map (·.1)
def AdI (w:World) (P:Pl) (c:Cl) (off jit:Int) (kept:List Cd) (vi:Value) (wr:World):Prop:=
 ∃ k:Nat,k<=kept.length/\vi=.int .i64 k/\bP wr P { c with srcs:=DW off jit (kept.take k) c.srcs }/\Only P.bs w wr
theorem FR {s:Sv} (h:II s) {off span:Int} (he:(fO s off span).2.1=0):II (fO s off span).2.2/\(((fO s off span).1.kind=2/\ -1125899906842624<=(fO s off span).1.val/\(fO s off span).1.val<=1125899906842624)\/((fO s off span).1.kind=1/\ -500000<=(fO s off span).1.val/\(fO s off span).1.val<=500000)):=by
 have l0:=h.l0;have l1:=h.l1;unfold fO at he |-;split
 ·rename_i hw
  have hb:=aW.1 hw.1;dsimp only;unfold I6;split
  ·exact⟨⟨h.kp0,h.kp1,h.ki0,h.ki1,l0,l1,h.sf,h.sl,h.i0,h.i1⟩,.inl ⟨rfl,hb⟩⟩
  ·have a:=rJ (n:=s.itg+YV s.c.ki (LP off span)) (lo:=-s.c.lim) (hi:=s.c.lim) (by omega)
   have b:=rJ (n:=YV s.c.kp (LP off span)+itS s (LP off span)) (lo:=-s.c.lim) (hi:=s.c.lim) (by omega);refine⟨⟨h.kp0,h.kp1,h.ki0,h.ki1,l0,l1,h.sf,h.sl,a.1,a.2⟩,.inr ⟨rfl,?_⟩⟩;dsimp only;unfold frS;omega
 ·rename_i hw
  rw[if_neg hw] at he;exact absurd he (by simp)
theorem smpE_no {s:Sv} {off span:Int} (he:(fO s off span).2.1≠0):fO s off span=(⟨0,0⟩,3,s):=by
 unfold fO at he |-;split
 ·rename_i hw
  rw[if_pos hw] at he;exact absurd rfl he
 ·rfl
theorem MI {α:Type} {l:List α} {i:Nat} (h:i<l.length) (f:α->α):l.modify i f=l.set i (f l[i]):=by
 apply List.ext_getElem
 ·simp
 ·intro j h1 h2
  rw[List.getElem_modify,List.getElem_set];split
  ·rename_i e;subst e;rfl
  ·rfl
theorem row_cd {w:World} {g cap:Nat} {l:List Cd} (hr:aP iU 338 5 w g cap l) {j:Nat} (hj:j<l.length):CdF w g (j*5) l[j]:=by
 obtain⟨b,off,hp,_,HC⟩:=(hr.eH dM rfl).at (show 0<l.length by omega);obtain⟨rfl,rfl⟩:g=b/\0=off:=by simpa using hp
 have:=HC j hj w (Only.refl [] w);rwa [Nat.zero_add] at this
theorem wV {P:Pl} {b:Nat} (h:b∈P.bs):b∈P.all:=by
 obtain⟨p,h1,h2⟩:=mem_map.1 h;unfold Pl.all;simp only[mem_cons];exact .inr (.inr (.inr (.inr (List.mem_flatMap.2 ⟨p,h1,by rw[<-h2];simp⟩))))
theorem bP.putR {w w':World} {P:Pl} {c:Cl} {s':Sr} (h:bP w P c) (i:Nat) (hi:i<P.ps.length) (ho:Only [P.ps[i].1] w w') (hb:xM w' P.ps[i].1 P.ps[i].2.1 P.ps[i].2.2 s') (h1:s'.sa=(c.srcs[i]'(h.len ▸ hi)).sa) (h2:s'.fl=(c.srcs[i]'(h.len ▸ hi)).fl):bP w' P { c with srcs:=c.srcs.set i s' }:=by
 have hs:=h.src i hi (h.len ▸ hi)
 have hq:∀ {l:List (Nat × Nat × Nat)},(l.flatMap fun p=>[p.1,p.2.1,p.2.2]).Nodup->∀ p∈l,p.1≠p.2.1/\p.1≠p.2.2:=by
  intro l;induction l with
  | nil=>simp
  | cons a l ih =>
   intro hn p hp;rw[List.flatMap_cons,List.nodup_append] at hn;rcases mem_cons.1 hp with rfl|hp
   ·have:=hn.1;simp only[List.nodup_cons,mem_cons,not_or] at this;exact⟨this.1.1,this.1.2.1⟩
   ·exact ih hn.2.1 p hp
 have hnd:=h.nd;unfold Pl.all at hnd;simp only[List.nodup_cons] at hnd;obtain⟨q1,q2⟩:=hq hnd.2.2.2.2 _ (getElem_mem hi);exact h.putS i hi ho (by simp) ⟨hb,by rw[h1];exact hs.a.kept ho (by simpa using q1.symm),by rw[h2];exact hs.f.kept ho (by simpa using q2.symm)⟩
def Y4 (c:Cl) (k:Nat):List Sr:=(gI c).take k ++ c.srcs.drop k
theorem QF (c:Cl) (k:Nat) (h:k<=c.srcs.length):(Y4 c k).length=c.srcs.length:=by
 unfold Y4 gI;simp;omega
theorem Y3 {c:Cl} {k:Nat} (h:k<c.srcs.length):(Y4 c k)[k]'(by rw[QF c k (by omega)];exact h)=c.srcs[k]:=by
 unfold Y4;rw[List.getElem_append_right (by simp[gI];omega)];simp[gI,Nat.min_eq_left (Nat.le_of_lt h)]
theorem Y0 {c:Cl} {k:Nat} (h:k<c.srcs.length):Y4 c (k+1)=(Y4 c k).set k { c.srcs[k] with fl:=⟨c.cf.tol,[]⟩ }:=by
 unfold Y4;rw[List.set_append_right _ _ (by simp[gI];omega),show k-((gI c).take k).length=0 by simp[gI];omega,List.drop_eq_getElem_cons h,List.set_cons_zero,jB _ (by simpa [gI] using h)];simp[gI]
theorem frK_end (c:Cl):Y4 c c.srcs.length=gI c:=by
 unfold Y4;rw[List.take_of_length_le (by simp[gI]),List.drop_of_length_le (Nat.le_refl _),List.append_nil]
def FrI (w:World) (B:Nat) (P:Pl) (c:Cl) (vi:Value) (wr:World):Prop:=
 ∃ (k:Nat) (P':Pl),k<=P.ps.length/\vi=.int .i64 k/\P'.bc=P.bc/\P'.g=P.g/\P'.ps.map (·.1)=P.ps.map (·.1)/\bP wr P' { c with srcs:=Y4 c k }/\(∀ b∈P'.all,b∈P.all\/B<=b)/\Only P.bs w wr
theorem pSteer {w:World} {P:Pl} {c:Cl} {g cap:Nat} {kept:List Cd} (h:bP w P c) (hck:iY c.ck) (hsv:II c.sv) (hn:P.ps.length<=12) (htol:0<=c.cf.tol/\c.cf.tol<=500000)
  (hr:aP iU 338 5 w g cap kept) (hgo:g ∉ P.all) (hg:Gd kept) (h0:0<kept.length) (hid:∀ k∈kept,k.id<P.ps.length)
  (raw now off:Int) (r0: -9223372036854775808<=raw) (r1:raw<=9223372036854775807) (n0: -4503599627370496<=now/\now<=4503599627370496) (n1: -4503599627370496<=c.rd/\c.rd<=4503599627370496) (o0: -112589990684262400<=off/\off<=112589990684262400) :
  Calls Tryz.prog 226 #[.pointer (some ⟨P.bc,0,none⟩),.int .i64 raw,.int .i64 now,.int .i64 off,.slice (some ⟨g,0,none⟩) kept.length cap] w fun e w'=>e=.returned (.tuple #[TV (iV c raw now off kept).1,.int .i64 (iV c raw now off kept).2.1])/\(∃ P',P'.bc=P.bc/\bP w' P' (iV c raw now off kept).2.2/\(∀ b∈P'.all,b∈P.all\/w.heap.size<=b))/\Only P.all w w':=by
 have HC:=Lib.hid h;have HSV:=Lib.hid hsv;have HR:=Lib.hid hr;have HG:=Lib.hid hg;have HCK:=Lib.hid hck;have hgl:=hr.lt;have hkl:=hg.len;obtain⟨res,HE⟩:∃ q,Hid (iV c raw now off kept=q):=⟨_,Lib.hid rfl⟩;rw[HE.out];unfold iV at HE;have q1:IntKind.i64.wrap (now-c.rd)=now-c.rd:=by rw[IntKind.wrap_i64];omega
 obtain⟨sp,hsp⟩:∃ sp,sS c now=sp:=⟨_,rfl⟩;rw[hsp] at HE;have HSP:=Lib.hid hsp;unfold sS at hsp;have HBC:=Lib.hid h.cl;have HLT:=Lib.hid h.lt;have hsb:1<=sp/\sp<=1125899906842624:=by rw[<-hsp];split<;>omega
 obtain⟨st,hst⟩:∃ st,c.st=st:=⟨_,rfl⟩;rw[hst] at hsp;have HST:=Lib.hid hst;have hcl:=h.cl;unfold mI at hcl;rw[hst] at hcl;clear hst h hsv hr hg hck;obtain⟨wo,hwo⟩:∃ wo:World,wo=w:=⟨_,rfl⟩;subst hwo;have m:=lQ hcl;have k:=m.out.k;clear hcl;have HS:=Lib.hid (fun (w2:World) (hs:lW w2 P.bv c.sv)=>pSample hs HSV.out off sp);have HM:=Lib.hid (show pK c now off kept={ c with st:=true,rd:=now,sv:=(fO c.sv off sp).2.2,srcs:=DW off (wK kept) kept c.srcs,rt:=D6 (DW off (wK kept) kept c.srcs) kept } by unfold pK;rw[HSP.out]);have HB:=Lib.hid (fun (he:(fO c.sv off sp).2.1=0)=>FR HSV.out he);have HNO:=Lib.hid (fun (he:(fO c.sv off sp).2.1≠0)=>smpE_no he);generalize pK c now off kept=cm at HE HM;generalize fO c.sv off sp=se at HS HE HM HB HNO;obtain⟨⟨ak,av⟩,er,sv2⟩:=se;unfold TV at HS |-;dsimp only at HS HE HM HB HNO;have HND:=Lib.hid (xE HC.out);have hbv:P.bv ∉ [P.bc]:=by simpa using HND.out.2.1.symm
 have hrb:∀ b∈P.all,b<wo.heap.size:=HLT.out;have hrg:g ∉ [wo.heap.size]:=by simp;omega
 have hgbc:g ∉ [P.bc]:=fun hm=>hgo (by rw[mem_singleton.1 hm];simp[Pl.all]);have hgbv:g ∉ [P.bv]:=fun hm=>hgo (by rw[mem_singleton.1 hm];simp[Pl.all]);have hrv:wo.heap.size ∉ [P.bv]:=by have:=hrb P.bv (by simp[Pl.all]);simp;omega
 have HRB:=Lib.hid (show ∀ b∈P.all,b ∉ [wo.heap.size] from fun b hb hm=>by have:=hrb b hb;rw[mem_singleton.1 hm] at this;omega)
 cases st
 all_goals (try simp only[Bool.false_eq_true,if_false] at hsp)
 all_goals (try simp only[if_true] at hsp)
 all_goals subst hsp
 all_goals go_enter Tryz.func226,Tryz.ntmps226
 all_goals go_wp2_with ((with_reducible first|refine cU ?_|refine wU ?_);clear k m;intro w m k)
 all_goals refine (HS.out _ (m.out.only.got HC.out.sv hbv)).mono ?_
 all_goals rintro e w2 ⟨rfl,hsv2,ho2⟩
 all_goals have HC1:=Lib.hid (HC.out.RX (c':={ c with st:=true,rd:=now }) m.out.only (by unfold mI;exact gB) rfl rfl rfl)
 all_goals have HLW:Hid (wo.heap.size<w.heap.size):=Lib.hid (aD (gB (w:=w) (b:=wo.heap.size)))
 all_goals have HLW2:Hid (w.heap.size<=w2.heap.size):=Lib.hid ho2.size
 all_goals have HC2:=Lib.hid (HC1.out.putV ho2 hsv2)
 all_goals have O2:=Lib.hid ((m.out.only.weak (S':=P.all) (by simp[Pl.all])).trans ho2 (by simp[Pl.all]))
 all_goals have HR2:=Lib.hid ((HR.out.kept m.out.only hgbc).kept ho2 hgbv)
 all_goals have hb2:w2.heap[wo.heap.size]? = some (.cells #[.int .i64 0,.int .i64 0] 326 (0,0)):=ho2.got (gB (w:=w)) hrv
 all_goals clear k m HC1 HS HC HR ho2 hsv2
 all_goals (obtain⟨wq,hwq⟩:∃ wq:World,wq=w2:=⟨_,rfl⟩;subst hwq)
 all_goals have m:=lQ hb2
 all_goals have k:=m.out.k
 all_goals clear hb2
 all_goals have hrs:∀ (x:Nat),x∈[wo.heap.size]->x∈P.all\/wo.heap.size<=x:=fun x hx=>.inr (by rw[mem_singleton.1 hx];exact Nat.le_refl _)
 all_goals by_cases he:er=0
 all_goals try (
  have hx:=HNO.out he;simp only[Prod.mk.injEq,Ac.mk.injEq] at hx;obtain⟨⟨rfl,rfl⟩,rfl,rfl⟩:=hx;have he2:=HE.out;rw[if_neg he] at he2;subst he2;go_wp2_with (first|((with_reducible refine wU ?_);clear k m;intro w m k)|((with_reducible refine lE (fun w o g k K hK=>⟨rfl,?_⟩));simp[results,Tryz.results226,go_sem,k];refine hK _ ?_;exact⟨rfl,⟨P,rfl,HC2.out.off o HRB.out,fun b hb=>.inl hb⟩,O2.out.trans o hrs⟩))
  done)
 all_goals subst he
 all_goals have HJ:=Lib.hid (fun w' (o:Only [wo.heap.size] wq w')=>pJitter ((HR2.out.kept o hrg).eH dM rfl) HG.out h0)
 all_goals go_wp2_with ((with_reducible first|refine cU ?_|refine cM (HJ.out _ gO) ?_|refine wU ?_);clear k m;intro w m k)
 all_goals have OA:=Lib.hid (O2.out.trans m.out.only hrs)
 all_goals (obtain⟨wl,hwl⟩:∃ wl:World,wl=w:=⟨_,rfl⟩;subst hwl)
 all_goals have HC3:=Lib.hid (HC2.out.off m.out.only HRB.out)
 all_goals have HR3:=Lib.hid (HR2.out.kept m.out.only hrg)
 all_goals have M3:=Lib.hid m
 all_goals have hgbs:g ∉ P.bs:=fun hm=>hgo (by obtain⟨p,h1,h2⟩:=mem_map.1 hm;unfold Pl.all;simp only[mem_cons];exact .inr (.inr (.inr (.inr (List.mem_flatMap.2 ⟨p,h1,by rw[<-h2];simp⟩)))))
 all_goals clear k m HC2 HR2 HJ HRB
 all_goals (obtain⟨c1,hc1⟩:∃ c1,({ c with st:=true,rd:=now,sv:=sv2 }:Cl)=c1:=⟨_,rfl⟩)
 all_goals have HC1:=Lib.hid hc1
 all_goals rw[hc1] at HC3
 all_goals clear hc1
 all_goals have hjb:=YO HG.out h0
 all_goals (generalize wK kept=jit at HM hjb |-)
 all_goals have hjb:0<=jit/\jit<=9223372036854775807:=by omega
 all_goals go_loopw [60] (fun vi wr=>AdI wl P c1 off jit kept vi wr) (fun vi _=>kept.length-(intOf vi).toNat)
 all_goals try (case atStart=>exact⟨0,Nat.zero_le _,rfl,HC3.out,Only.refl _ _⟩)
 all_goals (
  obtain⟨j,hk,rfl,hcl,ho⟩:=hrel;by_cases hlt:j<kept.length
  ·have hkd:=hid _ (getElem_mem hlt)
   have hkp:=(iG (HG.out.ok _ (getElem_mem hlt))).1;have HSN:=Lib.hid (show DW off jit (kept.take (j+1)) c1.srcs=(DW off jit (kept.take j) c1.srcs).modify kept[j].id.toNat (adS off jit) by rw[jB kept hlt,K6]);have HKC:=fun (pb:Nat) (hpb:g ∉ [pb]) w' (o:Only [pb] wr w')=>row_cd ((HR3.out.kept ho hgbs).kept o hpb) hlt;generalize kept[j]=kd at hkd hkp HSN HKC;obtain⟨kid,ko,kd2,kj,ks⟩:=kd;dsimp only at hkd hkp HSN HKC;obtain⟨i,rfl⟩:∃ i:Nat,kid=(i:Int):=⟨kid.toNat,by omega⟩;rw[Int.toNat_natCast] at HSN;have hi:i<P.ps.length:=by omega
   have OO:=Lib.hid ho;generalize DW off jit (kept.take j) c1.srcs=sl at hcl HSN;have hic:i<sl.length:=by have:=hcl.len;dsimp only at this;omega
   have hsb:=(hcl.src i hi hic).b;have HPR:=Lib.hid (fun w' s'=>hcl.putR (w':=w') (s':=s') i hi);have HND2:=(xE hcl).2.2.2.2.2.2 _ (getElem_mem hi);have hbm:P.ps[i].1∈P.bs:=mem_map.2 ⟨_,getElem_mem hi,rfl⟩;have hpg:g≠P.ps[i].1:=fun e=>hgbs (e ▸ hbm)
   have cg:wr.cell? ⟨P.g,i,none⟩=some (.pointer (some ⟨P.ps[i].1,0,none⟩)):=by
    have:=hcl.row.cell kR (i:=i) (j:=0) (x:=P.ps[i].1) (by rw[getElem?_map,List.getElem?_eq_getElem hi];rfl) (by decide);simpa [wB] using this
   have lg:=hcl.row.lt;have hcb:=hcl.cl;have HSN2:=Lib.hid (show DW off jit (kept.take (j+1)) c1.srcs=sl.set i (adS off jit sl[i]) by rw[HSN.out,MI hic]);dsimp only at hsb HPR;generalize P.ps[i]=pp at hsb HPR HND2 hbm hpg cg;obtain⟨pb,pa,pf⟩:=pp;generalize sl[i]=sv0 at hsb HPR HSN2;dsimp only at hsb HPR HND2 hbm hpg cg;have hn1:=(HND2 pb (by simp)).1;have hn2:=(HND2 pb (by simp)).2.2.2;have HX:=Lib.hid (fun w' (o:Only [pb] wr w')=>And.intro (nU (o.got hcb (by simpa using hn1))) (And.intro (Nat.lt_of_lt_of_le lg o.size) (And.intro ((o.cell lg (by simpa using hn2)).trans cg) (HKC pb (by simpa using hpg) w' o))));unfold xM at hsb HPR;dsimp only[adS] at HPR HSN2;obtain⟨sa,fl,hr,hp,⟨b1,b2,b3,b4,b5⟩,sent,⟨e1,e2,e3,e4,e5,e6,e7,e8,e9,ea,eb,ec,ed⟩,⟨t1,t2,t3,t4⟩,⟨v1,v2⟩,pat⟩:=sv0;have HA:=Lib.hid (pAdapt ⟨b1,b2,b3,b4,b5⟩ off jit (by omega) (by omega) hjb.2);dsimp only at hsb HPR HSN2;generalize AQ ⟨b1,b2,b3,b4,b5⟩ off jit=rn at HA HSN2;obtain⟨y1,y2,y3,y4,y5⟩:=rn;unfold I9 at HA;dsimp only at HA HSN2;have HPR:=Lib.hid (fun w' ho hb=>HPR.out w' ⟨sa,fl,hr,hp,⟨y1,y2,y3,y4,y5⟩,sent,⟨e1,e2,e3,e4,e5,e6,e7,e8,e9,ea,eb,ec,ed⟩,⟨t1,t2,t3,t4⟩,⟨v1,v2⟩,pat⟩ ho hb rfl rfl);have HBM:=Lib.hid hbm;have m:=lQ hsb;have k:=m.out.k;have c:=HX.out wr (Only.refl _ wr);have hi2:(i:Int)<(P.ps.length:Int):=by omega
   clear hsb hcb lg cg hn1 hn2 hpg hbm HND2 hcl ho hkd hkp hic HKC;go_wp2_with (first|((with_reducible first|refine cU ?_|refine cM (HA.out _) ?_|refine wU ?_);clear k m c;intro w m k;have c:=HX.out w m.out.only)|((with_reducible refine rG (id:=12) [0,1,2,3,4,5,6,7,8] [] (by kernel_rfl) (by kernel_rfl) ?_);simp only[pick,map_cons,map_nil,List.getD_cons_succ,List.getD_cons_zero];(repeat' (first|go_big_quiet_step (fail)|(refine wpQuiet_step (fun K hK=>?_);go_simp;(first|(refine hK _ ?_;clear hK K)|(split<;>(refine hK _ ?_;clear hK K))))));all_goals (refine wpQuiet_nil ?_;clear k m c;intro w m k;have c:=HX.out w m.out.only))|(go_roundw;(case rel=>exact⟨j+1,by omega,by go_num,by rw[HSN2.out];exact HPR.out _ gO gB,OO.out.trans gO (fun x hx=>.inl (by rw[mem_singleton.1 hx];exact HBM.out))⟩);(case measure=>first|(simp[intOf];done)|(simp[intOf];omega))))
  ·obtain rfl:j=kept.length:=by omega
   rw[List.take_length] at hcl;have HC4:=Lib.hid hcl;have HR4:=Lib.hid (HR3.out.kept ho hgbs);have OO:=Lib.hid ho;have HJS:True:=trivial
   have hid0:((tH kept).headD default)∈kept:=(jC kept).subset (by
    have hl:=(jC kept).length_eq;rw[EI (show 0<(tH kept).length by omega)];exact getElem_mem _)
   have hkd:=hid _ hid0;have hkp:=(iG (HG.out.ok _ hid0)).1;obtain⟨i,hie⟩:∃ i:Nat,((tH kept).headD default).id=(i:Int):=⟨((tH kept).headD default).id.toNat,by omega⟩;rw[hie] at hkd;clear HJS;have hi:i<P.ps.length:=by omega
   have hi2:(i:Int)<(P.ps.length:Int):=hkd;obtain⟨sl,hsl⟩:∃ sl,DW off jit kept c1.srcs=sl:=⟨_,rfl⟩;rw[hsl] at HC4 hcl;have hic:i<sl.length:=by have:=hcl.len;dsimp only at this;omega
   have HRT:=Lib.hid (show D6 sl kept=sl[i].rt by unfold D6;rw[hie,Int.toNat_natCast,List.getElem?_eq_getElem hic]);have hsb:=(hcl.src i hi hic).b;have HND2:=(xE hcl).2.2.2.2.2.2 _ (getElem_mem hi) P.ps[i].1 (by simp);have hbm:P.ps[i].1∈P.all:=wV (mem_map.2 ⟨_,getElem_mem hi,rfl⟩)
   have cg:wr.cell? ⟨P.g,i,none⟩=some (.pointer (some ⟨P.ps[i].1,0,none⟩)):=by
    have:=hcl.row.cell kR (i:=i) (j:=0) (x:=P.ps[i].1) (by rw[getElem?_map,List.getElem?_eq_getElem hi];rfl) (by decide);simpa [wB] using this
   have lg:=hcl.row.lt;have hcb:=hcl.cl;have hbr:wo.heap.size ∉ P.bs:=fun hm=>by have:=hrb _ (wV hm);omega
   have hba:wq.heap.size ∉ P.bs:=fun hm=>by have:=hrb _ (wV hm);have:=HLW.out;have:=HLW2.out;omega
   have hx1:=ho.got M3.out.out.got.1 hba;have hx2:=ho.got M3.out.out.got.2.1 hbr;have hgl2:=hrb P.g (by simp[Pl.all]);have hbl2:=hrb P.bc (by simp[Pl.all]);have hpl2:=hrb _ hbm;have hq1:=HLW.out;have hq2:=HLW2.out;have hq3:=HND2.1;have hq4:=HND2.2.2.2;have hq5:=HND.out.2.2.1;dsimp only at hsb;generalize P.ps[i]=pp at hsb HND2 hbm cg hpl2 hq3 hq4;obtain⟨pb,pa,pf⟩:=pp;generalize sl[i]=sv0 at hsb HRT;dsimp only at hsb hbm cg hpl2 hq3 hq4;unfold xM at hsb;obtain⟨sa,fl,hr,hp,⟨b1,b2,b3,b4,b5⟩,sent,⟨e1,e2,e3,e4,e5,e6,e7,e8,e9,ea,eb,ec,ed⟩,⟨t1,t2,t3,t4⟩,⟨v1,v2⟩,pat⟩:=sv0;unfold mI at hcb;dsimp only at hsb HRT hcb;have HX:=Lib.hid (fun w' (o:Only [P.bc,wo.heap.size] wr w')=>And.intro (Nat.lt_of_lt_of_le lg o.size) ((o.cell lg (by simp;exact⟨Ne.symm hq5,by omega⟩)).trans cg));have m:Mm wr [P.bc,wo.heap.size] wr _:=⟨((((Mem.start wr [P.bc,wo.heap.size]).ext true hcb (by simp) (by simp)).ext false hsb (by simpa using Ne.symm hq3) (by simp)).ext false hx1 (by simp;omega) (by simp)).ext true hx2 (by simp;omega) (by simp)⟩;have k:=m.out.k;have c:=HX.out wr (Only.refl _ wr);clear hcl ho hlt hk HC3 hsb hcb hx1 hx2 cg lg HND2 hbr hba hid0;have HJS:=Lib.hid (fun w' (o:Only [P.bc,wo.heap.size] wr w')=>(pSystem ((HR4.out.kept o (by simp;exact⟨fun e=>hgo (e ▸ by simp[Pl.all]),by omega⟩)).eH dM rfl) HG.out h0));rw[hie] at HJS;rcases HB.out (by simp) with ⟨hsv3,⟨hak,ha1,ha2⟩|⟨hak,ha1,ha2⟩⟩;all_goals subst hak
   all_goals go_wp2_with (first|((with_reducible first|refine cU ?_|refine cM (HJS.out _ gO) ?_|refine wU ?_);clear k m c;intro w m k;have c:=HX.out w m.out.only)|((with_reducible refine rG (id:=20) [0,1,2,3,4,5,6] [7,8] (by kernel_rfl) (by kernel_rfl) ?_);simp only[pick,map_cons,map_nil,List.getD_cons_succ,List.getD_cons_zero];(repeat' (first|go_big_quiet_step (fail)|(refine wpQuiet_step (fun K hK=>?_);go_simp;(first|(refine hK _ ?_;clear hK K)|(split<;>(refine hK _ ?_;clear hK K))))));all_goals (refine wpQuiet_nil ?_;clear k m c;intro w m k;have c:=HX.out w m.out.only))|((with_reducible refine rG (id:=22) [0,1,2,3,4,5,6] [7,8] (by kernel_rfl) (by kernel_rfl) ?_);simp only[pick,map_cons,map_nil,List.getD_cons_succ,List.getD_cons_zero];(repeat' (first|go_big_quiet_step (fail)|(refine wpQuiet_step (fun K hK=>?_);go_simp;(first|(refine hK _ ?_;clear hK K)|(split<;>(refine hK _ ?_;clear hK K))))));all_goals (refine wpQuiet_nil ?_;clear k m c;intro w m k;have c:=HX.out w m.out.only)))
   all_goals (
    have hcm:cm={ c1 with srcs:=sl,rt:=⟨t1,t2,t3,t4⟩ }:=by
     have h1:=HC1.out;have h2:=HRT.out;have h3:=HM.out;clear m k c HX HJS HC4 HC1 HRT HM;subst h1;rw[h3,<-h2,<-hsl]
    subst hcm;have HCK1:Hid (iY c1.ck):=Lib.hid (by rw[<-HC1.out];exact HCK.out)
    have HC5:=Lib.hid (HC4.out.putB2 (c':={ c1 with srcs:=sl,rt:=⟨t1,t2,t3,t4⟩ }) m.out.only (fun b hb hm=>by
     rcases mem_cons.1 hm with e|hm
     ·exact e
     ·have:=hrb b hb;rw[mem_singleton.1 hm] at this;omega) (by unfold mI;exact gB) rfl rfl rfl)
    have OB:=Lib.hid ((OA.out.trans OO.out (fun x hx=>.inl (wV hx))).trans m.out.only (fun x hx=>by
     rcases mem_cons.1 hx with e|hx
     ·exact .inl (by rw[e];simp[Pl.all])
     ·exact hrs x hx))
    have hbk:=hrb P.bk (by simp[Pl.all]);have g1:w.heap[wo.heap.size]? = some (.cells #[.int .i64 0,.int .i64 0] 326 (0,0)):=gB;have g2:=gB (w:=w) (b:=wq.heap.size);unfold LK at HE;clear m k c HX HJS HC4 HR4 HRT HM;simp only[if_true,Int.reduceEq,if_false] at HE)
   all_goals first
    | (refine (XT (w:=w) HC5.out.ck HCK1.out raw r0 r1 av (by omega) (by omega)).mono ?_;generalize iZ c1.ck raw av=cr at HE |-)
    | (refine (XU (w:=w) HC5.out.ck HCK1.out raw r0 r1 av (by omega) (by omega)).mono ?_;generalize lI c1.ck raw av=cr at HE |-)
   all_goals (
    obtain⟨e2',ck2⟩:=cr;dsimp only at HE |-;rintro e w3 ⟨rfl,hck3,ho3⟩)
   all_goals (
    have HC6:=Lib.hid (HC5.out.putK ho3 hck3);have O6:=Lib.hid (OB.out.trans ho3 (fun x hx=>.inl (by rw[mem_singleton.1 hx];simp[Pl.all])));have f1:=ho3.got g1 (by simp;omega);have f2:=ho3.got g2 (by simp;omega);have HRB2:=Lib.hid (show ∀ b∈P.all,b ∉ [wo.heap.size] from fun b hb hm=>by have:=hrb b hb;rw[mem_singleton.1 hm] at this;omega);clear HC5 OB ho3 hck3 g1 g2;obtain⟨wk,hwk⟩:∃ wk:World,wk=w3:=⟨_,rfl⟩;subst hwk;have m:Mm wk [wo.heap.size] wk _:=⟨((Mem.start wk [wo.heap.size]).ext false f2 (by simp) (by simp)).ext true f1 (by simp;omega) (by simp)⟩;have k:=m.out.k;clear f1 f2;by_cases he2:e2'=0)
   all_goals try (
    have he3:=HE.out;rw[if_neg he2] at he3;subst he3;go_wp2_with (first|((with_reducible refine wU ?_);clear k m;intro w m k)|((with_reducible refine lE (fun w o g k K hK=>⟨rfl,?_⟩));simp[results,Tryz.results226,go_sem,k];refine hK _ ?_;exact⟨rfl,⟨P,rfl,HC6.out.off o HRB2.out,fun b hb=>.inl hb⟩,O6.out.trans o hrs⟩))
    done)
   all_goals (
    subst he2;rw[if_pos rfl] at HE)
   all_goals try (
    have he3:=HE.out;subst he3;go_wp2_with (first|((with_reducible refine wU ?_);clear k m;intro w m k)|((with_reducible refine lE (fun w o g k K hK=>⟨rfl,?_⟩));simp[results,Tryz.results226,go_sem,k];refine hK _ ?_;exact⟨rfl,⟨P,rfl,HC6.out.off o HRB2.out,fun b hb=>.inl hb⟩,O6.out.trans o hrs⟩))
    done)
   all_goals (
    obtain⟨cz,hcz⟩:∃ cz,({ cf:=c1.cf,ck:=ck2,sv:=c1.sv,srcs:=sl,last:=c1.last,own:=c1.own,owned:=c1.owned,rt:=⟨t1,t2,t3,t4⟩,st:=c1.st,rd:=c1.rd }:Cl)=cz:=⟨_,rfl⟩;have HZ:=Lib.hid hcz;have HC7:Hid (bP wk P cz):=Lib.hid (by rw[<-hcz];exact HC6.out);have HCT:Hid (cz.cf=c.cf):=Lib.hid (by rw[<-hcz];dsimp only;rw[<-HC1.out]);have HX:=Lib.hid (fun w' (o:Only [wo.heap.size] wk w')=>nU (HC7.out.off o HRB2.out).cl);have c:=HX.out wk (Only.refl _ wk);clear hcz HC6;go_wp2_with ((with_reducible refine wU ?_);clear k m c;intro w m k;have c:=HX.out w m.out.only)
    have Y1:=Lib.hid m.out.got.1;have Y2:=Lib.hid m.out.got.2.1;have HFN:=Lib.hid (pFNew cz.cf.tol (by rw[HCT.out];exact htol.1) (by rw[HCT.out];exact htol.2));have HCL8:=Lib.hid HC7.out.len;have hks:=O6.out.size;clear k m c HX;go_loopw [136] (fun vi wr=>FrI wk wk.heap.size P cz vi wr) (fun vi _=>P.ps.length-(intOf vi).toNat)
    case atStart=>exact⟨0,P,Nat.zero_le _,rfl,rfl,rfl,rfl,HC7.out,fun b hb=>.inl hb,Only.refl _ _⟩
    case round =>
     obtain⟨j,Q,hk,rfl,hQ1,hQ2,hQ3,hcl,hQa,ho⟩:=hrel;have hln:Q.ps.length=P.ps.length:=by have:=congrArg List.length hQ3;simpa using this
     by_cases hlt:j<P.ps.length
     ·have hj:j<Q.ps.length:=by omega
      have hjc:j<cz.srcs.length:=by have:=HCL8.out;omega
      have HFL:=Lib.hid (QF cz j (by have:=HCL8.out;omega));have hsb:=(hcl.src j hj (by have:=HFL.out;dsimp only;omega)).b;dsimp only at hsb;rw[Y3 hjc] at hsb;have HPF:=Lib.hid (fun w' b=>hcl.putF (w':=w') (b:=b) (s':={ cz.srcs[j] with fl:=⟨cz.cf.tol,[]⟩ }) hj);have HAL:=Lib.hid (fun b=>JU (P:=Q) (b:=b) hj);have HMP:=Lib.hid (fun b=>(JY (b:=b) hj).trans hQ3);have HSU:=Lib.hid (Y0 hjc);have HSA:=Lib.hid (show (Y4 cz j)[j]'(by have:=HFL.out;omega)=cz.srcs[j] from Y3 hjc);have HND2:=(xE hcl).2.2.2.2.2.2 _ (getElem_mem hj) Q.ps[j].1 (by simp);have hbm:Q.ps[j].1∈P.bs:=by unfold Pl.bs;rw[<-hQ3];exact mem_map.2 ⟨_,getElem_mem hj,rfl⟩
      have cg:wr.cell? ⟨P.g,j,none⟩=some (.pointer (some ⟨Q.ps[j].1,0,none⟩)):=by
       have:=hcl.row.cell kR (i:=j) (j:=0) (x:=Q.ps[j].1) (by rw[getElem?_map,List.getElem?_eq_getElem hj];rfl) (by decide);rw[<-hQ2];simpa [wB] using this
      have lg:=hcl.row.lt;have hcb:=hcl.cl;unfold mI at hcb;rw[hQ1] at hcb HND2;rw[hQ2] at lg HND2;dsimp only at hcb;have hpl:=aD hsb;have OO:=Lib.hid ho;have HX:=Lib.hid (fun w' (o:Only [Q.ps[j].1] wr w')=>And.intro (nU (o.got hcb (by simpa using HND2.1))) (And.intro (Nat.lt_of_lt_of_le lg o.size) ((o.cell lg (by simpa using HND2.2.2.2)).trans cg)));have HBM:=Lib.hid hbm;have HPL:=Lib.hid hpl;have HQA:=Lib.hid hQa;have HQ:=Lib.hid (And.intro hQ1 hQ2);generalize Q.ps[j]=pp at hsb HPF HX HBM HPL cg;obtain⟨pb,pa,pf⟩:=pp;generalize cz.srcs[j]=sv0 at hsb HPF HSU HSA;obtain⟨sa,fl,hr,hp,⟨b1,b2,b3,b4,b5⟩,sent,⟨e1,e2,e3,e4,e5,e6,e7,e8,e9,ea,eb,ec,ed⟩,⟨u1,u2,u3,u4⟩,⟨v1',v2'⟩,pat⟩:=sv0;unfold xM at hsb HPF;dsimp only at hsb HPF HX HBM HPL HSU cg;have hws:=ho.size;have hlt2:(j:Int)<(P.ps.length:Int):=by omega
      clear hcb lg cg HND2 hbm hpl hQ1 hQ2 hQ3 hQa ho;have m:=lQ hsb;have k:=m.out.k;have c:=HX.out wr (Only.refl _ wr);clear hsb;go_wp2_with (first|((with_reducible refine cX (HFN.out _) ?_);intro w5 x c2 o m5 k5;have hz:=Nat.le_trans m.out.only.size c2.1;have hf5:=Lib.hid c2.2;clear k m c c2 o;have m:=m5;have k:=k5;clear m5 k5;have c:=HX.out w5 m.out.only)|(go_roundw;(case rel=>exact⟨j+1,Q.newF j x hj,by omega,by go_num,HQ.out.1,HQ.out.2,HMP.out x,by rw[HSU.out];exact HPF.out _ x gO hz gB (by rw[HSA.out]) (hf5.out.kept ((Only.refl [pb] w5).setCell (.inl (by simp)) _) (by have:=HPL.out;simp;omega)),fun b hb=>(HAL.out x b hb).elim (HQA.out b) (fun e=>.inr (by rw[e];omega)),OO.out.trans gO (fun y hy=>.inl (by rw[mem_singleton.1 hy];exact HBM.out))⟩);(case measure=>first|(simp[intOf];done)|(simp[intOf];omega))))
     ·obtain rfl:j=P.ps.length:=by omega
      have he3:=HE.out;have hfe:=frK_end cz;rw[<-HCL8.out] at hfe;rw[hfe] at hcl;have HCQ:=Lib.hid hcl;have hbs:∀ b,wo.heap.size<=b->b ∉ P.bs:=fun b hb hm=>by have:=hrb b (wV hm);omega
      have z1:=ho.got Y1.out (hbs _ (Nat.le_refl _));have z2:=ho.got Y2.out (hbs _ (by have:=HLW.out;have:=HLW2.out;omega));have hy1:=aD Y1.out;have hws:=ho.size
      have HRBQ:=Lib.hid (show ∀ b∈Q.all,b ∉ [wo.heap.size] from fun b hb hm=>by
       rw[mem_singleton.1 hm] at hb;rcases hQa _ hb with h|h
       ·have:=hrb _ h;omega
       ·omega)
      have HQA:=Lib.hid (show ∀ b∈Q.all,b∈P.all\/wo.heap.size<=b from fun b hb=>(hQa b hb).imp_right (fun h=>by omega));have O9:=Lib.hid (O6.out.trans ho (fun x hx=>.inl (wV hx)));have HQ1:=Lib.hid hQ1;have m:Mm wr [wo.heap.size] wr _:=⟨((Mem.start wr [wo.heap.size]).ext false z2 (by simp) (by simp)).ext true z1 (by have:=HLW.out;have:=HLW2.out;simp;omega) (by simp)⟩;have k:=m.out.k;subst he3;have hz2:=HZ.out;clear z1 z2 hcl ho hQa hQ1 hQ2 hQ3;go_wp2_with (first|((with_reducible refine wU ?_);clear k m;intro w m k)|((with_reducible refine lE (fun w o g k K hK=>⟨rfl,?_⟩));simp[results,Tryz.results226,go_sem,k];refine hK _ ?_;exact⟨rfl,⟨Q,HQ1.out,(by have h:=HCQ.out.off o HRBQ.out;rw[<-hz2] at h;exact h),HQA.out⟩,O9.out.trans o hrs⟩))))
end
section
open Go.RowKit Go.Sort
def oO (l:List Cd) (ins:List Int):List Cd:=ins.map fun i=>l[i.toNat]?.getD default
theorem L9 (fit:Cd->Bool) (L:List Cd):∀ (r:List Cd) (i:Nat),L.drop i=r->(tX fit r i).map (fun j=>L[j.toNat]?.getD default)=r.filter fit
 | [],_,_=>rfl
 | c::r,i,h=>by
  have hr:L.drop (i+1)=r:=by rw[<-List.drop_drop,h];rfl
  have hc:L[i]? = some c:=by
   have:=congrArg (fun q=>q[0]?) h;simpa using this
  unfold tX;by_cases hf:fit c=true
  ·rw[if_pos hf,map_cons,L9 fit L r (i+1) hr,List.filter_cons_of_pos hf,Int.toNat_natCast,hc]
   rfl
  ·rw[if_neg hf,L9 fit L r (i+1) hr,List.filter_cons_of_neg hf]
theorem pk_lt (fit:Cd->Bool):∀ (r:List Cd) (i:Nat),∀ x∈tX fit r i,(i:Int)<=x/\x<(i:Int)+r.length
 | [],_,x,h=>by simp[tX] at h
 | c::r,i,x,h=>by
  unfold tX at h;have ih:=pk_lt fit r (i+1) x;split at h
  ·rcases mem_cons.1 h with rfl|h
   ·simp;omega
   ·have:=ih h;simp;omega
  ·have:=ih h;simp;omega
theorem NZ {l:List Cd} {ins:List Int} {h:Iv}:∀ (f a:Nat),AJ l f a=some (ins,h)->∃ b,2*b<l.length/\D5 l b=some (ins,h)
 | 0,_,e=>by simp[AJ] at e
 | f+1,a,e=>by
  unfold AJ at e;split at e
  ·rename_i hb
   split at e
   ·rename_i x hx
    cases e
    exact⟨a,hb,hx⟩
   ·exact NZ f (a+1) e
  ·cases e
theorem VB {l:List Cd} {ins:List Int} {h:Iv} (hs:sel l=some (ins,h)):0<ins.length/\ins.length<=l.length/\(∀ x∈ins,0<=x/\x<l.length)/\(oO l ins).Sublist l/\(oO l ins).length=ins.length:=by
 obtain⟨b,hb,h1⟩:=NZ _ _ hs;unfold D5 at h1;split at h1
 ·cases h1
 ·rename_i h2 _
  split at h1
  ·rename_i hle
   simp only[Option.some.injEq,Prod.mk.injEq] at h1;obtain⟨rfl,rfl⟩:=h1;have hl:=yZ (MP h2) l 0;refine⟨by omega,hl,fun x hx=>?_,?_,by simp[oO]⟩
   ·have:=pk_lt (MP h2) l 0 x hx;simp at this;omega
   ·have:=L9 (MP h2) l l 0 rfl
    unfold oO;rw[this];exact List.filter_sublist
  ·cases h1
def fH (c:Cl) (raw:Int):Cl:={ (aH c raw).2.2 with own:=uR (aH c raw).2.2 raw,owned:=raw }
def mK (c:Cl) (raw:Int) (ins:List Int):List Cd:=R6 c.cf.keep (oO (jZ (fH c raw) raw) ins)
def UpdR (c:Cl) (raw:Int) (a:Ac) (er:Int) (c':Cl):Prop:=
 ((aH c raw).2.1≠0/\a=⟨0,0⟩/\er=(aH c raw).2.1/\c'=(aH c raw).2.2) \/
 ((aH c raw).2.1=0/\((er≠0/\a=⟨0,0⟩/\c'=fH c raw/\(¬ Gd (jZ (fH c raw) raw)\/sel (jZ (fH c raw) raw)=none)) \/
  (∃ ins hv,Gd (jZ (fH c raw) raw)/\sel (jZ (fH c raw) raw)=some (ins,hv)/\(a,er,c')=iV (fH c raw) raw (aH c raw).1 (gU (mK c raw ins)) (mK c raw ins))))
theorem keep_gd {c:Cl} {raw:Int} {ins:List Int} {hv:Iv} (hk:1<=c.cf.keep) (hg:Gd (jZ (fH c raw) raw)) (hs:sel (jZ (fH c raw) raw)=some (ins,hv)) :
  Gd (oO (jZ (fH c raw) raw) ins)/\0<(oO (jZ (fH c raw) raw) ins).length/\Gd (mK c raw ins)/\0<(mK c raw ins).length/\∀ k∈mK c raw ins,0<=k.id/\k.id<(fH c raw).srcs.length:=by
 obtain⟨h0,h1,h2,h3,h4⟩:=VB hs;have hgc:=hg.sub h3;have hp:=jC (oO (jZ (fH c raw) raw) ins);obtain⟨q1,q2,q3⟩:=JE hk (oO (jZ (fH c raw) raw) ins).length (hgc.perm hp) (by rw[hp.length_eq];omega);refine⟨hgc,by omega,q1,q2,fun k hk2=>?_⟩;have hm:=h3.subset (hp.subset (q3 k hk2));unfold jZ at hm;split at hm
 ·exact QL _ k hm
 ·cases hm
end
section
open Go.RowKit Go.Sort
def ChI (w:World) (l:List Cd) (ins:List Int) (vo vi:Value) (wr:World):Prop:=
 ∃ k:Nat,k<=ins.length/\vi=.int .i64 k/\Own iU 338 5 w.heap.size wr vo (oO l (ins.take k))/\Only [] w wr
theorem CJ {c:Cl} {raw:Int} (h:(aY c raw).2=0): -4503599627370496<=(aY c raw).1/\(aY c raw).1<=4503599627370496:=by
 unfold aY at h |-;split at h
 ·rename_i h1
  rw[if_pos h1];split at h
  ·cases h
  ·rename_i h2
   rw[if_neg h2];unfold eF at h |-;split at h
   ·cases h
   ·rename_i h3
    rw[if_neg h3];split at h
    ·cases h
    ·rename_i h4
     rw[if_neg h4];split at h
     ·rename_i h5
      rw[if_pos h5];unfold fI bT at h5;simpa using h5
     ·cases h
 ·rename_i h1
  exact absurd h h1
theorem lD (c:Cl) (raw:Int):(aH c raw).2.2.ck=c.ck/\(aH c raw).2.2.sv=c.sv/\(aH c raw).2.2.srcs=c.srcs/\(aH c raw).2.2.cf=c.cf/\(aH c raw).2.2.rd=c.rd/\(aH c raw).2.2.owned=c.owned:=by
 unfold aH;split<;>exact⟨rfl,rfl,rfl,rfl,rfl,rfl⟩
end
end
section
section
open Go.RowKit Go.Sort
theorem zO {p:Sr->Prop} {off jit:Int} (hp:∀ s,p s->p (adS off jit s)):∀ (ks:List Cd) (l:List Sr),(∀ s∈l,p s)->∀ s∈DW off jit ks l,p s
 | [],_,h=>h
 | k::r,l,h=>zO hp r _ (fun s hs=>by
  rw[List.mem_iff_getElem?] at hs;obtain⟨i,hi⟩:=hs;rw[List.getElem?_modify] at hi
  cases hx:l[i]? with
  | none=>rw[hx] at hi;simp at hi
  | some y =>
   rw[hx] at hi;have hy:=h y (List.mem_of_getElem? hx);simp only[Option.map_eq_map,Option.map_some,Option.some.injEq] at hi;rw[<-hi];split
   ·exact hp y hy
   ·exact hy)
theorem ZP {c:Ck} (h:iY c) {r x:Int} (x0: -500000<=x) (x1:x<=500000):iY (lI c r x).2:=by
 unfold lI;split
 ·rename_i he
  obtain⟨h1,h2,h3,-⟩:=qL he;have h4:=aW.1 (show bT (fP c r) (-4503599627370496) 4503599627370496=true from h3);exact⟨Int.le_trans h.r0 h1,h2,h4.1,h4.2,x0,x1,h.s0,h.s1⟩
 ·exact h
theorem ZO {c:Ck} (h:iY c) {r d:Int}:iY (iZ c r d).2:=by
 unfold iZ;split
 ·rename_i he
  obtain⟨h1,h2,h3,-⟩:=qL he;split
  ·rename_i hs
   unfold st1 at hs |-;split at hs
   ·rename_i ht
    split at hs
    ·exact absurd hs (by simp)
    ·rename_i hn
     rw[if_pos ht,if_neg hn];have h4:=aW.1 (show bT (fP c r+d) (-4503599627370496) 4503599627370496=true from ht);have:=h.s0;have:=h.s1;exact⟨Int.le_trans h.r0 h1,h2,h4.1,h4.2,h.p0,h.p1,by dsimp only;omega,by dsimp only;omega⟩
   ·exact absurd hs (by simp)
  ·exact h
 ·exact h
theorem NY (r t p s:Int):fP ⟨r,t,p,s⟩ r=t:=by
 unfold fP;dsimp only;rw[Int.sub_self,Int.zero_mul,Int.zero_ediv];omega
theorem TR {c:Ck} {r x:Int} (he:(eF c r).2=0):eF (lI c r x).2 r=eF c r/\(lI c r x).2.steps=c.steps:=by
 obtain⟨h1,h2,h3,h4⟩:=qL he;unfold lI;rw[if_pos he];refine⟨?_,rfl⟩;rw[h4];unfold eF;dsimp only;rw[if_neg (by omega),if_neg (by omega),NY,if_pos h3]
theorem TQ {c:Ck} {r d:Int} (he:(eF c r).2=0) :
  ((iZ c r d).1=0->eF (iZ c r d).2 r=((eF c r).1+d,0)/\(iZ c r d).2.steps=c.steps+1)/\((iZ c r d).1≠0->(iZ c r d).2=c):=by
 obtain⟨h1,h2,h3,h4⟩:=qL he;unfold iZ;rw[if_pos he];by_cases hs:(st1 (fP c r) d c.steps).1=0
 ·rw[if_pos hs]
  refine⟨fun _=>?_,fun h=>absurd rfl h⟩;unfold st1 at hs |-;split at hs
  ·rename_i ht
   split at hs
   ·exact absurd hs (by simp)
   ·rename_i hn
    rw[if_pos ht,if_neg hn,h4];refine⟨?_,rfl⟩;unfold eF;dsimp only;rw[if_neg (by omega),if_neg (by omega),NY,if_pos ht]
  ·exact absurd hs (by simp)
 ·rw[if_neg hs]
  exact⟨fun h=>absurd h hs,fun _=>rfl⟩
theorem show_up {c:Ck} (h:iY c) {r r':Int} (hr:r<=r'):fP c r<=fP c r':=by
 unfold fP;have p0:=h.p0
 have hq:(r-c.raw)*c.ppb / 1000000000-(r'-r)<=(r'-c.raw)*c.ppb / 1000000000:=by
  rw[Int.le_ediv_iff_mul_le (by decide)];have h1:(r'-c.raw)*c.ppb=(r-c.raw)*c.ppb+(r'-r)*c.ppb:=by rw[<-Int.add_mul];congr 1;omega
  have h2:=Int.mul_le_mul_of_nonneg_left (a:=-500000) (b:=c.ppb) (c:=r'-r) p0 (by omega);have h3:=Int.ediv_mul_le ((r-c.raw)*c.ppb) (b:=1000000000) (by decide);rw[h1,Int.sub_mul];omega
 omega
theorem QT {c:Ck} (h:iY c) {r r':Int} (hr:r<=r') (h1:(eF c r).2=0) (h2:(eF c r').2=0):(eF c r).1<=(eF c r').1:=by
 rw[(qL h1).2.2.2,(qL h2).2.2.2];exact show_up h hr
structure pJ (c:Cl):Prop where
 ok:r9 c
 sv:II c.sv
 g:∀ s∈c.srcs,IJ s
 tol:0<=c.cf.tol/\c.cf.tol<=500000
 kp:1<=c.cf.keep
 rd: -4503599627370496<=c.rd/\c.rd<=4503599627370496
theorem pJ.enter {c:Cl} {raw:Int} (h:pJ c):pJ (aH c raw).2.2:=by
 obtain⟨h1,h2,h3,h4,h5,h6⟩:=lD c raw;exact⟨⟨h1 ▸ h.ok.ck,h3 ▸ h.ok.src,h6 ▸ h.ok.own,h4 ▸ h.ok.s0,h4 ▸ h.ok.s1,by rw[h3,h4];exact h.ok.len⟩,h2 ▸ h.sv,h3 ▸ h.g,h4 ▸ h.tol,h4 ▸ h.kp,h5 ▸ h.rd⟩
theorem pJ.upB {c:Cl} {raw:Int} (h:pJ c) (he:(aH c raw).2.1=0):pJ (fH c raw):=by
 have hr:=qR he h.ok.ck;have h':=h.enter (raw:=raw);exact⟨⟨h'.ok.ck,h'.ok.src,hr,h'.ok.s0,h'.ok.s1,h'.ok.len⟩,h'.sv,h'.g,h'.tol,h'.kp,h'.rd⟩
theorem pJ.stM {c:Cl} {now off:Int} {kept:List Cd} (h:pJ c) (hn: -4503599627370496<=now/\now<=4503599627370496) (he:(fO c.sv off (sS c now)).2.1=0):pJ (pK c now off kept):=by
 refine⟨⟨h.ok.ck,?_,h.ok.own,h.ok.s0,h.ok.s1,?_⟩,(FR h.sv he).1,?_,h.tol,h.kp,hn⟩
 ·exact zO (p:=pU) (fun s hs=>hs) _ _ h.ok.src
 ·show ((DW off (wK kept) kept c.srcs).length:Int)=c.cf.servers
  rw[Q6];exact h.ok.len
 ·exact zO (p:=IJ) (fun s hs=>⟨hs.fl,hs.r1,hs.r2⟩) _ _ h.g
theorem pJ.ck {c:Cl} {k:Ck} (h:pJ c) (hk:iY k):pJ { c with ck:=k } :=
 ⟨⟨hk,h.ok.src,h.ok.own,h.ok.s0,h.ok.s1,h.ok.len⟩,h.sv,h.g,h.tol,h.kp,h.rd⟩
theorem pJ.fresh {c:Cl} (h:pJ c):pJ { c with srcs:=gI c }:=by
 refine⟨⟨h.ok.ck,?_,h.ok.own,h.ok.s0,h.ok.s1,?_⟩,h.sv,?_,h.tol,h.kp,h.rd⟩
 ·intro s hs
  obtain⟨y,hy,rfl⟩:=mem_map.1 hs;exact h.ok.src y hy
 ·show ((gI c).length:Int)=c.cf.servers
  unfold gI;rw[List.length_map];exact h.ok.len
 ·intro s hs
  obtain⟨y,hy,rfl⟩:=mem_map.1 hs;exact⟨fun x hx=>absurd hx (by simp),(h.g y hy).r1,(h.g y hy).r2⟩
theorem pJ.sp {c:Cl} {now:Int} (h:pJ c) (hn: -4503599627370496<=now/\now<=4503599627370496):pJ { c with st:=true,rd:=now } :=
 ⟨⟨h.ok.ck,h.ok.src,h.ok.own,h.ok.s0,h.ok.s1,h.ok.len⟩,h.sv,h.g,h.tol,h.kp,hn⟩
theorem pJ.str {c:Cl} {raw now off:Int} {kept:List Cd} (h:pJ c) (hn: -4503599627370496<=now/\now<=4503599627370496) (he:(eF c.ck raw).2=0) :
  pJ (iV c raw now off kept).2.2/\(iV c raw now off kept).2.2.last=c.last /\
  (if (iV c raw now off kept).1.kind=2 then eF (iV c raw now off kept).2.2.ck raw=((eF c.ck raw).1+(iV c raw now off kept).1.val,0)/\(iV c raw now off kept).2.2.ck.steps=c.ck.steps+1
   else eF (iV c raw now off kept).2.2.ck raw=eF c.ck raw/\(iV c raw now off kept).2.2.ck.steps=c.ck.steps):=by
 unfold iV;by_cases hs:(fO c.sv off (sS c now)).2.1=0
 ·rw[if_pos hs]
  have hM:=h.stM (kept:=kept) hn hs;have hMc:(pK c now off kept).ck=c.ck:=rfl;have hMl:(pK c now off kept).last=c.last:=rfl;obtain⟨-,hb⟩:=FR h.sv hs;generalize fO c.sv off (sS c now)=se at hb |-;obtain⟨⟨ak,av⟩,er,sv2⟩:=se;generalize pK c now off kept=cm at hM hMc hMl |-;dsimp only at hb |-;unfold LK;dsimp only;rcases hb with ⟨rfl,-,-⟩|⟨rfl,x0,x1⟩
  ·simp only[if_true]
   have hst:=TQ (c:=cm.ck) (r:=raw) (d:=av) (by rw[hMc];exact he);have hok:=ZO hM.ok.ck (r:=raw) (d:=av);by_cases hz:(iZ cm.ck raw av).1=0
   ·rw[if_pos hz]
    obtain⟨q1,q2⟩:=hst.1 hz;refine⟨(hM.fresh).ck hok,hMl,?_⟩;simp only[if_true];rw[q1,q2,hMc];exact⟨rfl,rfl⟩
   ·rw[if_neg hz]
    refine⟨hM.ck hok,hMl,?_⟩;rw[if_neg (by simp)];dsimp only;rw[hst.2 hz,hMc];exact⟨rfl,rfl⟩
  ·simp only[show ¬ ((1:Int)=2) by decide,if_false]
   have hst:=TR (c:=cm.ck) (r:=raw) (x:=av) (by rw[hMc];exact he);have hok:=ZP hM.ok.ck (r:=raw) x0 x1;by_cases hz:(lI cm.ck raw av).1=0
   ·rw[if_pos hz]
    refine⟨hM.ck hok,hMl,?_⟩;simp only[show ¬ ((1:Int)=2) by decide,if_false];rw[hst.1,hst.2,hMc];exact⟨rfl,rfl⟩
   ·rw[if_neg hz]
    refine⟨hM.ck hok,hMl,?_⟩;rw[if_neg (by simp)];dsimp only;rw[hst.1,hst.2,hMc];exact⟨rfl,rfl⟩
 ·rw[if_neg hs]
  refine⟨h.sp hn,rfl,?_⟩;rw[if_neg (by simp)];exact⟨rfl,rfl⟩
theorem vN {c:Cl} {raw:Int} (h:(aY c raw).2=0):(eF c.ck raw).2=0/\c.last<=raw/\aY c raw=eF c.ck raw:=by
 unfold aY at h |-;split at h
 ·rename_i h1
  split at h
  ·exact absurd h (by simp)
  ·rename_i h2
   refine⟨h1,by omega,?_⟩;rw[if_pos h1,if_neg h2]
 ·rename_i h1
  exact absurd h h1
theorem CG {c:Cl} {raw:Int} (h:(eF c.ck raw).2=0) (hl:c.last<=raw):aY c raw=eF c.ck raw:=by
 unfold aY;rw[if_pos h,if_neg (by omega)]
theorem jF {c:Cl} {raw:Int} (h:(aY c raw).2=0):aH c raw=((aY c raw).1,0,{ c with last:=raw }):=by
 unfold aH;rw[if_pos h]
theorem pJ.upd {c c':Cl} {raw er:Int} {a:Ac} (h:pJ c) (hu:UpdR c raw a er c'):pJ c'/\((aY c raw).2=0 ->
  (if a.kind=2 then aY c' raw=((aY c raw).1+a.val,0)/\c'.ck.steps=c.ck.steps+1 else aY c' raw=aY c raw/\c'.ck.steps=c.ck.steps)):=by
 rcases hu with ⟨h1,h2,h3,h4⟩|⟨h1,⟨h2,h3,h4,-⟩|⟨ins,hv,-,-,h4⟩⟩
 ·refine⟨h4 ▸ h.enter,fun hn=>?_⟩
  rw[jF hn] at h1;exact absurd rfl h1
 ·refine⟨h4 ▸ h.upB h1,fun hn=>?_⟩
  obtain⟨q1,q2,q3⟩:=vN hn;have hck:c'.ck=c.ck:=by rw[h4];exact (lD c raw).1
  have hla:c'.last=raw:=by
   rw[h4];show (aH c raw).2.2.last=raw
   rw[jF hn]
  rw[if_neg (by rw[h3];simp)];exact⟨by rw[CG (by rw[hck];exact q1) (by omega),hck,q3],by rw[hck]⟩
 ·have hn:=rF h1
  obtain⟨q1,q2,q3⟩:=vN hn;have hck:(fH c raw).ck=c.ck:=(lD c raw).1
  have hla:(fH c raw).last=raw:=by
   show (aH c raw).2.2.last=raw
   rw[jF hn]
  have hb: -4503599627370496<=(aH c raw).1/\(aH c raw).1<=4503599627370496:=by rw[jF hn];exact CJ hn
  obtain⟨r1,r2,r3⟩:=(h.upB h1).str (raw:=raw) (now:=(aH c raw).1) (off:=gU (mK c raw ins)) (kept:=mK c raw ins) hb (by rw[hck];exact q1);rw[<-h4] at r1 r2 r3;dsimp only at r1 r2 r3;refine⟨r1,fun _=>?_⟩;rw[hck] at r3;rw[q3];split
  ·rename_i hk
   rw[if_pos hk] at r3;exact⟨by rw[CG (by rw[r3.1]) (by omega),r3.1],r3.2⟩
  ·rename_i hk
   rw[if_neg hk] at r3;exact⟨by rw[CG (by rw[r3.1];exact q1) (by omega),r3.1],r3.2⟩
end
section
open Go.RowKit Go.Sort
theorem KG {f:Fl} {s:iM} (h:∀ x∈f.l,gD x=0):∀ x∈(GV f s).1.l,gD x=0:=by
 have hp (hs:gD s=0):∀ x∈(vK f s).l,gD x=0:=fun x hx=>by
  unfold vK at hx;rcases List.mem_append.1 hx with hx|hx
  ·split at hx
   ·exact h x (List.mem_of_mem_drop hx)
   ·exact h x hx
  ·rw[mem_singleton.1 hx];exact hs
 unfold GV;split
 ·rename_i hs
  split
  ·split
   ·exact h
   ·exact hp hs
  ·exact hp hs
 ·exact h
theorem sSend_g {s:Sr} {raw now nonce:Int} (h:IJ s):IJ (gZ s raw now nonce).2.2:=by
 unfold gZ;split<;>exact⟨h.fl,h.r1,h.r2⟩
theorem VO {s:Sr} {iv:Iv} {raw tol:Int} (h:IJ s):IJ (iO s iv raw tol):=by
 unfold iO;split
 ·split
  ·exact h
  ·exact⟨h.fl,h.r1,h.r2⟩
 ·exact h
theorem sMeas_g {s:Sr} {i:Int} {p:Np} {q:Qd} {prec tol:Int} (h:IJ s) (hp:eP p):IJ (mE s i p q prec tol):=by
 unfold mE;split
 ·split
  ·exact⟨KG h.fl,hp.1,hp.2.1⟩
  ·exact⟨KG h.fl,h.r1,h.r2⟩
 ·exact h
theorem sRecv_g {s:Sr} {i:Int} {p:Np} {iv:Iv} {has:Bool} {raw now prec tol:Int} (h:IJ s) (hp:eP p):IJ (j6 s i p iv has raw now prec tol).2:=by
 unfold j6;split
 ·exact⟨h.fl,h.r1,h.r2⟩
 ·split
  ·dsimp only
   refine sMeas_g ?_ hp;have hh:IJ (xX s (jP s.sa p now).2):=⟨h.fl,h.r1,h.r2⟩;split
   ·exact VO hh
   ·exact hh
  ·exact⟨h.fl,h.r1,h.r2⟩
theorem sr0_g (c:Cf):IJ (o9 c):=⟨fun x hx=>absurd hx (by simp[o9]),(by decide:(0:Int)<=0/\(0:Int)<=4294967295),(by decide:(0:Int)<=0/\(0:Int)<=4294967295)⟩
theorem YX {l:List Sr} {i:Nat} {c:Cf} (h:∀ x∈l,IJ x):IJ (l.getD i (o9 c)):=by
 rw[List.getD_eq_getElem?_getD]
 cases hh:l[i]? with
 | none=>exact sr0_g c
 | some s=>exact h s (List.mem_of_getElem? hh)
theorem g_set {l:List Sr} {i:Nat} {s:Sr} (h:∀ x∈l,IJ x) (hs:IJ s):∀ x∈l.set i s,IJ x:=fun x hx=>by
 rcases List.mem_or_eq_of_mem_set hx with h'|rfl
 ·exact h x h'
 ·exact hs
theorem pJ.send {c:Cl} (h:pJ c) (server raw nonce:Int):pJ (dL c server raw nonce).2:=by
 refine⟨h.ok.send _ _ _,?_,?_,?_,?_,?_⟩<;>unfold dL<;>split<;>(try split)<;>first
  | exact h.sv
  | exact h.g
  | exact h.tol
  | exact h.kp
  | exact h.rd
  | exact g_set h.g (sSend_g (YX h.g))
  | exact (h.enter (raw:=raw)).sv
  | exact (h.enter (raw:=raw)).tol
  | exact (h.enter (raw:=raw)).kp
  | exact (h.enter (raw:=raw)).rd
theorem pJ.recv {c:Cl} (h:pJ c) (server:Int) {p:Np} (hp:eP p) (iv:Iv) (has:Bool) (raw:Int):pJ (fF c server p iv has raw).2:=by
 refine⟨h.ok.recv _ _ _ _ _,?_,?_,?_,?_,?_⟩<;>unfold fF<;>split<;>(try split)<;>first
  | exact h.sv
  | exact h.g
  | exact h.tol
  | exact h.kp
  | exact h.rd
  | exact g_set h.g (sRecv_g (YX h.g) hp)
  | exact (h.enter (raw:=raw)).sv
  | exact (h.enter (raw:=raw)).tol
  | exact (h.enter (raw:=raw)).kp
  | exact (h.enter (raw:=raw)).rd
theorem nS {c:Cf} (h:fG c=0):(1<=c.servers/\c.servers<=12)/\(0<=c.tol/\c.tol<=500000)/\(1<=c.keep/\c.keep<=12)/\sG c.sv=0:=by
 unfold fG at h;split at h
 ·rename_i h1
  simp only[Bool.and_eq_true,aW] at h1;split at h
  ·rename_i h2
   exact⟨h1.1,h1.2.1,h1.2.2.2,h2⟩
  ·rename_i h2
   exact absurd h h2
 ·exact absurd h (by decide)
theorem pJ.new {c:Cf} (h:fG c=0):pJ (G9 c 0 0):=by
 obtain⟨h1,h2,h3,h4⟩:=nS h
 have hs:II ⟨c.sv,0,0,0⟩:=by
  unfold sG at h4;split at h4
  ·rename_i h5
   simp only[Bool.and_eq_true,aW] at h5;obtain⟨a,b,d,e,f⟩:=h5;exact⟨a.1,a.2,b.1,b.2,d.1,d.2,e,f,by dsimp only;omega,by dsimp only;omega⟩
  ·exact absurd h4 (by decide)
 refine⟨r9.new (by decide) (by decide) h1,hs,?_,h2,h3.1,?_⟩
 ·intro s hs
  obtain rfl:=(List.mem_replicate.1 hs).2;exact sr0_g c
 ·show (-4503599627370496:Int)<=0/\(0:Int)<=4503599627370496
  decide
end
end
end Go.Proofs.YthbgcpfklmlnjaaGreat
