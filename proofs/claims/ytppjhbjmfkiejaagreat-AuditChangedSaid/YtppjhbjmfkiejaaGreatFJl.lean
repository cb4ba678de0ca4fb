/- Jl Jm -/
import Derived.Test.YtppjhbjmfkiejaaGreatFJk
namespace Go.Proofs.YtppjhbjmfkiejaaGreat
open List (getElem?_map getElem_mem mem_cons mem_map mem_singleton)
set_option maxRecDepth 100000
set_option maxHeartbeats 8000000
open IntKind (wrap)
section
open Go.RowKit Go.Sort
def Pl.bs (P:Pl):List Nat:=P.ps.map (·.1)
def AdI (w:World) (P:Pl) (c:Cl) (off jit:Int) (kept:List Cd) (vi:Value) (wr:World):Prop:=
 ∃ k:Nat,k<=kept.length/\vi=.int .i64 k/\bP wr P { c with srcs:=EK off jit (kept.take k) c.srcs }/\Oy P.bs w wr
theorem GD {s:Sv} (h:JG s) {off span:Int} (he:(fZ s off span).2.1=0):JG (fZ s off span).2.2/\(((fZ s off span).1.kind=2/\ -1125899906842624<=(fZ s off span).1.val/\(fZ s off span).1.val<=1125899906842624)\/((fZ s off span).1.kind=1/\ -500000<=(fZ s off span).1.val/\(fZ s off span).1.val<=500000)):=by
 have l0:=h.l0;have l1:=h.l1;unfold fZ at he |-;split
 ·rename_i hw
  have hb:=aY.1 hw.1;dsimp only;unfold JV;split
  ·exact⟨⟨h.kp0,h.kp1,h.ki0,h.ki1,l0,l1,h.sf,h.sl,h.i0,h.i1⟩,.inl ⟨rfl,hb⟩⟩
  ·have a:=sJ (n:=s.itg+gnS s.c.ki (MS off span)) (lo:=-s.c.lim) (hi:=s.c.lim) (by omega)
   have b:=sJ (n:=gnS s.c.kp (MS off span)+itS s (MS off span)) (lo:=-s.c.lim) (hi:=s.c.lim) (by omega);refine⟨⟨h.kp0,h.kp1,h.ki0,h.ki1,l0,l1,h.sf,h.sl,a.1,a.2⟩,.inr ⟨rfl,?_⟩⟩;dsimp only;unfold frS;omega
 ·rename_i hw
  rw[if_neg hw] at he;exact absurd he (by simp)
theorem smpE_no {s:Sv} {off span:Int} (he:(fZ s off span).2.1≠0):fZ s off span=(⟨0,0⟩,3,s):=by
 unfold fZ at he |-;split
 ·rename_i hw
  rw[if_pos hw] at he;exact absurd rfl he
 ·rfl
theorem NP {α:Type} {l:List α} {i:Nat} (h:i<l.length) (f:α->α):l.modify i f=l.set i (f l[i]):=by
 apply List.ext_getElem
 ·simp
 ·intro j h1 h2
  rw[List.getElem_modify,List.getElem_set];split
  ·rename_i e;subst e;rfl
  ·rfl
theorem row_cd {w:World} {g cap:Nat} {l:List Cd} (hr:aO iZ 382 5 w g cap l) {j:Nat} (hj:j<l.length):CdF w g (j*5) l[j]:=by
 obtain⟨b,off,hp,_,HC⟩:=(hr.dI dQ rfl).at (show 0<l.length by omega);obtain⟨rfl,rfl⟩:g=b/\0=off:=by simpa using hp
 have:=HC j hj w (aR [] w);rwa [Nat.zero_add] at this
theorem xS {P:Pl} {b:Nat} (h:b∈P.bs):b∈P.all:=by
 obtain⟨p,h1,h2⟩:=mem_map.1 h;unfold Pl.all;simp only[mem_cons];exact .inr (.inr (.inr (.inr (List.mem_flatMap.2 ⟨p,h1,by rw[<-h2];simp⟩))))
theorem bP.putR {w w':World} {P:Pl} {c:Cl} {s':Sr} (h:bP w P c) (i:Nat) (hi:i<P.ps.length) (ho:Oy [P.ps[i].1] w w') (hb:yK w' P.ps[i].1 P.ps[i].2.1 P.ps[i].2.2 s') (h1:s'.sa=(c.srcs[i]'(h.len ▸ hi)).sa) (h2:s'.fl=(c.srcs[i]'(h.len ▸ hi)).fl):bP w' P { c with srcs:=c.srcs.set i s' }:=by
 have hs:=h.src i hi (h.len ▸ hi)
 have hq:∀ {l:List (Nat × Nat × Nat)},(l.flatMap fun p=>[p.1,p.2.1,p.2.2]).Nodup->∀ p∈l,p.1≠p.2.1/\p.1≠p.2.2:=by
  intro l;induction l with
  | nil=>simp
  | cons a l ih =>
   intro hn p hp;rw[List.flatMap_cons,List.nodup_append] at hn;rcases mem_cons.1 hp with rfl|hp
   ·have:=hn.1;simp only[List.nodup_cons,mem_cons,not_or] at this;exact⟨this.1.1,this.1.2.1⟩
   ·exact ih hn.2.1 p hp
 have hnd:=h.nd;unfold Pl.all at hnd;simp only[List.nodup_cons] at hnd;obtain⟨q1,q2⟩:=hq hnd.2.2.2.2 _ (getElem_mem hi);exact h.putS i hi ho (by simp) ⟨hb,by rw[h1];exact hs.a.kept ho (by simpa using q1.symm),by rw[h2];exact hs.f.kept ho (by simpa using q2.symm)⟩
def frK (c:Cl) (k:Nat):List Sr:=(gQ c).take k ++ c.srcs.drop k
theorem RI (c:Cl) (k:Nat) (h:k<=c.srcs.length):(frK c k).length=c.srcs.length:=by
 unfold frK gQ;simp;omega
theorem frK_at {c:Cl} {k:Nat} (h:k<c.srcs.length):(frK c k)[k]'(by rw[RI c k (by omega)];exact h)=c.srcs[k]:=by
 unfold frK;rw[List.getElem_append_right (by simp[gQ];omega)];simp[gQ,Nat.min_eq_left (Nat.le_of_lt h)]
theorem frK_succ {c:Cl} {k:Nat} (h:k<c.srcs.length):frK c (k+1)=(frK c k).set k { c.srcs[k] with fl:=⟨c.cf.tol,[]⟩ }:=by
 unfold frK;rw[List.set_append_right _ _ (by simp[gQ];omega),show k-((gQ c).take k).length=0 by simp[gQ];omega,List.drop_eq_getElem_cons h,List.set_cons_zero,eO _ (by simpa [gQ] using h)];simp[gQ]
theorem frK_end (c:Cl):frK c c.srcs.length=gQ c:=by
 unfold frK;rw[List.take_of_length_le (by simp[gQ]),List.drop_of_length_le (Nat.le_refl _),List.append_nil]
def FrI (w:World) (B:Nat) (P:Pl) (c:Cl) (vi:Value) (wr:World):Prop:=
 ∃ (k:Nat) (P':Pl),k<=P.ps.length/\vi=.int .i64 k/\P'.bc=P.bc/\P'.g=P.g/\P'.ps.map (·.1)=P.ps.map (·.1)/\bP wr P' { c with srcs:=frK c k }/\(∀ b∈P'.all,b∈P.all\/B<=b)/\Oy P.bs w wr
theorem pSteer {w:World} {P:Pl} {c:Cl} {g cap:Nat} {kept:List Cd} (h:bP w P c) (hck:jE c.ck) (hsv:JG c.sv) (hn:P.ps.length<=12) (htol:0<=c.cf.tol/\c.cf.tol<=500000)
  (hr:aO iZ 382 5 w g cap kept) (hgo:g ∉ P.all) (hg:Gd kept) (h0:0<kept.length) (hid:∀ k∈kept,k.id<P.ps.length)
  (raw now off:Int) (r0: -9223372036854775808<=raw) (r1:raw<=9223372036854775807) (n0: -4503599627370496<=now/\now<=4503599627370496) (n1: -4503599627370496<=c.rd/\c.rd<=4503599627370496) (o0: -112589990684262400<=off/\off<=112589990684262400) :
  Calls Tryz.prog 241 #[.pointer (some ⟨P.bc,0,none⟩),.int .i64 raw,.int .i64 now,.int .i64 off,.slice (some ⟨g,0,none⟩) kept.length cap] w fun e w'=>e=.returned (.tuple #[VI (jB c raw now off kept).1,.int .i64 (jB c raw now off kept).2.1])/\(∃ P',P'.bc=P.bc/\bP w' P' (jB c raw now off kept).2.2/\(∀ b∈P'.all,b∈P.all\/w.heap.size<=b))/\Oy P.all w w':=by
 have HC:=aA h;have HSV:=aA hsv;have HR:=aA hr;have HG:=aA hg;have HCK:=aA hck;have hgl:=hr.lt;have hkl:=hg.len;obtain⟨res,HE⟩:∃ q,Hid (jB c raw now off kept=q):=⟨_,aA rfl⟩;rw[HE.out];unfold jB at HE;have q1:wrap .i64 (now-c.rd)=now-c.rd:=by rw[IntKind.wrap_i64];omega
 obtain⟨sp,hsp⟩:∃ sp,uF c now=sp:=⟨_,rfl⟩;rw[hsp] at HE;have HSP:=aA hsp;unfold uF at hsp;have HBC:=aA h.cl;have HLT:=aA h.lt;have hsb:1<=sp/\sp<=1125899906842624:=by rw[<-hsp];split<;>omega
 obtain⟨st,hst⟩:∃ st,c.st=st:=⟨_,rfl⟩;rw[hst] at hsp;have HST:=aA hst;have hcl:=h.cl;unfold mW at hcl;rw[hst] at hcl;clear hst h hsv hr hg hck;obtain⟨wo,rfl⟩:∃ wo:World,wo=w:=⟨_,rfl⟩;have m:=kV hcl;have k:=m.zK;clear hcl;have HS:=aA (fun (w2:World) (hs:mH w2 P.bv c.sv)=>pSample hs HSV.out off sp);have HM:=aA (show qC c now off kept={ c with st:=true,rd:=now,sv:=(fZ c.sv off sp).2.2,srcs:=EK off (xG kept) kept c.srcs,rt:=ER (EK off (xG kept) kept c.srcs) kept } by unfold qC;rw[HSP.out]);have HB:=aA (fun (he:(fZ c.sv off sp).2.1=0)=>GD HSV.out he);have HNO:=aA (fun (he:(fZ c.sv off sp).2.1≠0)=>smpE_no he);generalize qC c now off kept=cm at HE HM;generalize fZ c.sv off sp=se at HS HE HM HB HNO;obtain⟨⟨ak,av⟩,er,sv2⟩:=se;unfold VI at HS |-;dsimp only at HS HE HM HB HNO;have HND:=aA (yF HC.out);have hbv:P.bv ∉ [P.bc]:=by simpa using HND.out.2.1.symm
 have hrb:∀ b∈P.all,b<wo.heap.size:=HLT.out;have hrg:g ∉ [wo.heap.size]:=by simp;omega
 have hgbc:g ∉ [P.bc]:=fun hm=>hgo (by rw[mem_singleton.1 hm];simp[Pl.all]);have hgbv:g ∉ [P.bv]:=fun hm=>hgo (by rw[mem_singleton.1 hm];simp[Pl.all]);have hrv:wo.heap.size ∉ [P.bv]:=by have:=hrb P.bv (by simp[Pl.all]);simp;omega
 have HRB:=aA (show ∀ b∈P.all,b ∉ [wo.heap.size] from fun b hb hm=>by have:=hrb b hb;rw[mem_singleton.1 hm] at this;omega)
 cases st
 all_goals (try simp only[Bool.false_eq_true,if_false] at hsp)
 all_goals (try simp only[if_true] at hsp)
 all_goals subst hsp
 all_goals go_enter Tryz.func241,Tryz.ntmps241
 all_goals go_wp2_with ((with_reducible first|refine cU ?_|refine wU ?_);clear k m;intro w m k)
 all_goals refine (HS.out _ (m.zO.got HC.out.sv hbv)).mono ?_
 all_goals rintro e w2 ⟨rfl,hsv2,ho2⟩
 all_goals have HC1:=aA (HC.out.TI (c':={ c with st:=true,rd:=now }) m.zO (by unfold mW;exact gB) rfl rfl rfl)
 all_goals have HLW:Hid (wo.heap.size<w.heap.size):=aA (aF (gB (w:=w) (b:=wo.heap.size)))
 all_goals have HLW2:Hid (w.heap.size<=w2.heap.size):=aA ho2.size
 all_goals have HC2:=aA (HC1.out.putV ho2 hsv2)
 all_goals have O2:=aA ((m.zO.weak (S':=P.all) (by simp[Pl.all])).trans ho2 (by simp[Pl.all]))
 all_goals have HR2:=aA ((HR.out.kept m.zO hgbc).kept ho2 hgbv)
 all_goals have hb2:w2.heap[wo.heap.size]? = some (.cells #[.int .i64 0,.int .i64 0] 370 (0,0)):=ho2.got (gB (w:=w)) hrv
 all_goals clear k m HC1 HS HC HR ho2 hsv2
 all_goals (obtain⟨wq,rfl⟩:∃ wq:World,wq=w2:=⟨_,rfl⟩)
 all_goals have m:=kV hb2
 all_goals have k:=m.zK
 all_goals clear hb2
 all_goals have hrs:∀ (x:Nat),x∈[wo.heap.size]->x∈P.all\/wo.heap.size<=x:=fun x hx=>.inr (by rw[mem_singleton.1 hx];exact Nat.le_refl _)
 all_goals by_cases he:er=0
 all_goals try (
  have hx:=HNO.out he;simp only[Prod.mk.injEq,Ac.mk.injEq] at hx;obtain⟨⟨rfl,rfl⟩,rfl,rfl⟩:=hx;have he2:=HE.out;rw[if_neg he] at he2;subst he2;go_wp2_with (first|((with_reducible refine wU ?_);clear k m;intro w m k)|((with_reducible refine lE (fun w o g k K hK=>⟨rfl,?_⟩));simp[results,Tryz.results241,go_sem,k];refine hK _ ?_;exact⟨rfl,⟨P,rfl,HC2.out.off o HRB.out,fun b hb=>.inl hb⟩,O2.out.trans o hrs⟩))
  done)
 all_goals subst he
 all_goals have HJ:=aA (fun w' (o:Oy [wo.heap.size] wq w')=>pJitter ((HR2.out.kept o hrg).dI dQ rfl) HG.out h0)
 all_goals go_wp2_with ((with_reducible first|refine cU ?_|refine cM (HJ.out _ gO) ?_|refine wU ?_);clear k m;intro w m k)
 all_goals have OA:=aA (O2.out.trans m.zO hrs)
 all_goals (obtain⟨wl,rfl⟩:∃ wl:World,wl=w:=⟨_,rfl⟩)
 all_goals have HC3:=aA (HC2.out.off m.zO HRB.out)
 all_goals have HR3:=aA (HR2.out.kept m.zO hrg)
 all_goals have M3:=aA m
 all_goals have hgbs:g ∉ P.bs:=fun hm=>hgo (by obtain⟨p,h1,h2⟩:=mem_map.1 hm;unfold Pl.all;simp only[mem_cons];exact .inr (.inr (.inr (.inr (List.mem_flatMap.2 ⟨p,h1,by rw[<-h2];simp⟩)))))
 all_goals clear k m HC2 HR2 HJ HRB
 all_goals (obtain⟨c1,hc1⟩:∃ c1,({ c with st:=true,rd:=now,sv:=sv2 }:Cl)=c1:=⟨_,rfl⟩)
 all_goals have HC1:=aA hc1
 all_goals rw[hc1] at HC3
 all_goals clear hc1
 all_goals have hjb:=Z7 HG.out h0
 all_goals (generalize xG kept=jit at HM hjb |-)
 all_goals have hjb:0<=jit/\jit<=9223372036854775807:=by omega
 all_goals go_loopw [60] (fun vi wr=>AdI wl P c1 off jit kept vi wr) (fun vi _=>kept.length-(intOf vi).toNat)
 all_goals try (case atStart=>exact⟨0,Nat.zero_le _,rfl,HC3.out,aR _ _⟩)
 all_goals (
  obtain⟨j,hk,rfl,hcl,ho⟩:=hrel;by_cases hlt:j<kept.length
  ·have hkd:=hid _ (getElem_mem hlt)
   have hkp:=(iM (HG.out.ok _ (getElem_mem hlt))).1;have HSN:=aA (show EK off jit (kept.take (j+1)) c1.srcs=(EK off jit (kept.take j) c1.srcs).modify kept[j].id.toNat (adS off jit) by rw[eO kept hlt,L6]);have HKC:=fun (pb:Nat) (hpb:g ∉ [pb]) w' (o:Oy [pb] wr w')=>row_cd ((HR3.out.kept ho hgbs).kept o hpb) hlt;generalize kept[j]=kd at hkd hkp HSN HKC;obtain⟨kid,ko,kd2,kj,ks⟩:=kd;dsimp only at hkd hkp HSN HKC;obtain⟨i,rfl⟩:∃ i:Nat,kid=(i:Int):=⟨kid.toNat,by omega⟩;rw[Int.toNat_natCast] at HSN;have hi:i<P.ps.length:=by omega
   have OO:=aA ho;generalize EK off jit (kept.take j) c1.srcs=sl at hcl HSN;have hic:i<sl.length:=by have:=hcl.len;dsimp only at this;omega
   have hsb:=(hcl.src i hi hic).b;have HPR:=aA (fun w' s'=>hcl.putR (w':=w') (s':=s') i hi);have HND2:=(yF hcl).2.2.2.2.2.2 _ (getElem_mem hi);have hbm:P.ps[i].1∈P.bs:=mem_map.2 ⟨_,getElem_mem hi,rfl⟩;have hpg:g≠P.ps[i].1:=fun e=>hgbs (e ▸ hbm)
   have cg:wr.cell? ⟨P.g,i,none⟩=some (.pointer (some ⟨P.ps[i].1,0,none⟩)):=by
    have:=hcl.row.cell lH (i:=i) (j:=0) (x:=P.ps[i].1) (by rw[getElem?_map,List.getElem?_eq_getElem hi];rfl) (by decide);simpa [wZ] using this
   have lg:=hcl.row.lt;have hcb:=hcl.cl;have HSN2:=aA (show EK off jit (kept.take (j+1)) c1.srcs=sl.set i (adS off jit sl[i]) by rw[HSN.out,NP hic]);dsimp only at hsb HPR;generalize P.ps[i]=pp at hsb HPR HND2 hbm hpg cg;obtain⟨pb,pa,pf⟩:=pp;generalize sl[i]=sv0 at hsb HPR HSN2;dsimp only at hsb HPR HND2 hbm hpg cg;have hn1:=(HND2 pb (by simp)).1;have hn2:=(HND2 pb (by simp)).2.2.2;have HX:=aA (fun w' (o:Oy [pb] wr w')=>And.intro (nZ (o.got hcb (by simpa using hn1))) (And.intro (Nat.lt_of_lt_of_le lg o.size) (And.intro ((o.cell lg (by simpa using hn2)).trans cg) (HKC pb (by simpa using hpg) w' o))));unfold yK at hsb HPR;dsimp only[adS] at HPR HSN2;obtain⟨sa,fl,hr,hp,⟨b1,b2,b3,b4,b5⟩,sent,⟨e1,e2,e3,e4,e5,e6,e7,e8,e9,ea,eb,ec,ed⟩,⟨t1,t2,t3,t4⟩,⟨v1,v2⟩,pat⟩:=sv0;have HA:=aA (pAdapt ⟨b1,b2,b3,b4,b5⟩ off jit (by omega) (by omega) hjb.2);dsimp only at hsb HPR HSN2;generalize BM ⟨b1,b2,b3,b4,b5⟩ off jit=rn at HA HSN2;obtain⟨y1,y2,y3,y4,y5⟩:=rn;unfold JY at HA;dsimp only at HA HSN2;have HPR:=aA (fun w' ho hb=>HPR.out w' ⟨sa,fl,hr,hp,⟨y1,y2,y3,y4,y5⟩,sent,⟨e1,e2,e3,e4,e5,e6,e7,e8,e9,ea,eb,ec,ed⟩,⟨t1,t2,t3,t4⟩,⟨v1,v2⟩,pat⟩ ho hb rfl rfl);have HBM:=aA hbm;have m:=kV hsb;have k:=m.zK;have c:=HX.out wr (aR _ wr);have hi2:(i:Int)<(P.ps.length:Int):=by omega
   clear hsb hcb lg cg hn1 hn2 hpg hbm HND2 hcl ho hkd hkp hic HKC;go_wp2_with (first|((with_reducible first|refine cU ?_|refine cM (HA.out _) ?_|refine wU ?_);clear k m c;intro w m k;have c:=HX.out w m.zO)|((with_reducible refine iY (id:=12) [0,1,2,3,4,5,6,7,8] [] ?_);simp only[bV];(repeat' (first|go_big_quiet_step (fail)|(refine wpQuiet_step (fun K hK=>?_);go_simp;(first|(refine hK _ ?_;clear hK K)|(split<;>(refine hK _ ?_;clear hK K))))));all_goals (refine wpQuiet_nil ?_;clear k m c;intro w m k;have c:=HX.out w m.zO))|(go_roundw;(case rel=>exact⟨j+1,by omega,by go_num,by rw[HSN2.out];exact HPR.out _ gO gB,OO.out.trans gO (fun x hx=>.inl (by rw[mem_singleton.1 hx];exact HBM.out))⟩);(case measure=>first|(simp[intOf];done)|(simp[intOf];omega))))
  ·obtain rfl:j=kept.length:=by omega
   rw[List.take_length] at hcl;have HC4:=aA hcl;have HR4:=aA (HR3.out.kept ho hgbs);have OO:=aA ho;have HJS:True:=trivial
   have hid0:((uM kept).headD default)∈kept:=(jG kept).subset (by
    have hl:=(jG kept).length_eq;rw[FD (show 0<(uM kept).length by omega)];exact getElem_mem _)
   have hkd:=hid _ hid0;have hkp:=(iM (HG.out.ok _ hid0)).1;obtain⟨i,hie⟩:∃ i:Nat,((uM kept).headD default).id=(i:Int):=⟨((uM kept).headD default).id.toNat,by omega⟩;rw[hie] at hkd;clear HJS;have hi:i<P.ps.length:=by omega
   have hi2:(i:Int)<(P.ps.length:Int):=hkd;obtain⟨sl,hsl⟩:∃ sl,EK off jit kept c1.srcs=sl:=⟨_,rfl⟩;rw[hsl] at HC4 hcl;have hic:i<sl.length:=by have:=hcl.len;dsimp only at this;omega
   have HRT:=aA (show ER sl kept=sl[i].rt by unfold ER;rw[hie,Int.toNat_natCast,List.getElem?_eq_getElem hic]);have hsb:=(hcl.src i hi hic).b;have HND2:=(yF hcl).2.2.2.2.2.2 _ (getElem_mem hi) P.ps[i].1 (by simp);have hbm:P.ps[i].1∈P.all:=xS (mem_map.2 ⟨_,getElem_mem hi,rfl⟩)
   have cg:wr.cell? ⟨P.g,i,none⟩=some (.pointer (some ⟨P.ps[i].1,0,none⟩)):=by
    have:=hcl.row.cell lH (i:=i) (j:=0) (x:=P.ps[i].1) (by rw[getElem?_map,List.getElem?_eq_getElem hi];rfl) (by decide);simpa [wZ] using this
   have lg:=hcl.row.lt;have hcb:=hcl.cl;have hbr:wo.heap.size ∉ P.bs:=fun hm=>by have:=hrb _ (xS hm);omega
   have hba:wq.heap.size ∉ P.bs:=fun hm=>by have:=hrb _ (xS hm);have:=HLW.out;have:=HLW2.out;omega
   have hx1:=ho.got M3.out.out.got.1 hba;have hx2:=ho.got M3.out.out.got.2.1 hbr;have hgl2:=hrb P.g (by simp[Pl.all]);have hbl2:=hrb P.bc (by simp[Pl.all]);have hpl2:=hrb _ hbm;have hq1:=HLW.out;have hq2:=HLW2.out;have hq3:=HND2.1;have hq4:=HND2.2.2.2;have hq5:=HND.out.2.2.1;dsimp only at hsb;generalize P.ps[i]=pp at hsb HND2 hbm cg hpl2 hq3 hq4;obtain⟨pb,pa,pf⟩:=pp;generalize sl[i]=sv0 at hsb HRT;dsimp only at hsb hbm cg hpl2 hq3 hq4;unfold yK at hsb;obtain⟨sa,fl,hr,hp,⟨b1,b2,b3,b4,b5⟩,sent,⟨e1,e2,e3,e4,e5,e6,e7,e8,e9,ea,eb,ec,ed⟩,⟨t1,t2,t3,t4⟩,⟨v1,v2⟩,pat⟩:=sv0;unfold mW at hcb;dsimp only at hsb HRT hcb;have HX:=aA (fun w' (o:Oy [P.bc,wo.heap.size] wr w')=>And.intro (Nat.lt_of_lt_of_le lg o.size) ((o.cell lg (by simp;exact⟨Ne.symm hq5,by omega⟩)).trans cg));have m:Mm wr [P.bc,wo.heap.size] wr _:=⟨((((Mem.start wr [P.bc,wo.heap.size]).ext true hcb (by simp) (by simp)).ext false hsb (by simpa using Ne.symm hq3) (by simp)).ext false hx1 (by simp;omega) (by simp)).ext true hx2 (by simp;omega) (by simp)⟩;have k:=m.zK;have c:=HX.out wr (aR _ wr);clear hcl ho hlt hk HC3 hsb hcb hx1 hx2 cg lg HND2 hbr hba hid0;have HJS:=aA (fun w' (o:Oy [P.bc,wo.heap.size] wr w')=>(pSystem ((HR4.out.kept o (by simp;exact⟨fun e=>hgo (e ▸ by simp[Pl.all]),by omega⟩)).dI dQ rfl) HG.out h0));rw[hie] at HJS;rcases HB.out (by simp) with ⟨hsv3,⟨hak,ha1,ha2⟩|⟨hak,ha1,ha2⟩⟩;all_goals subst hak
   all_goals go_wp2_with (first|((with_reducible first|refine cU ?_|refine cM (HJS.out _ gO) ?_|refine wU ?_);clear k m c;intro w m k;have c:=HX.out w m.zO)|((with_reducible refine iY (id:=20) [0,1,2,3,4,5,6] [7,8] ?_);simp only[bV];(repeat' (first|go_big_quiet_step (fail)|(refine wpQuiet_step (fun K hK=>?_);go_simp;(first|(refine hK _ ?_;clear hK K)|(split<;>(refine hK _ ?_;clear hK K))))));all_goals (refine wpQuiet_nil ?_;clear k m c;intro w m k;have c:=HX.out w m.zO))|((with_reducible refine iY (id:=22) [0,1,2,3,4,5,6] [7,8] ?_);simp only[bV];(repeat' (first|go_big_quiet_step (fail)|(refine wpQuiet_step (fun K hK=>?_);go_simp;(first|(refine hK _ ?_;clear hK K)|(split<;>(refine hK _ ?_;clear hK K))))));all_goals (refine wpQuiet_nil ?_;clear k m c;intro w m k;have c:=HX.out w m.zO)))
   all_goals (
    have hcm:cm={ c1 with srcs:=sl,rt:=⟨t1,t2,t3,t4⟩ }:=by
     have h1:=HC1.out;have h2:=HRT.out;have h3:=HM.out;clear m k c HX HJS HC4 HC1 HRT HM;subst h1;rw[h3,<-h2,<-hsl]
    subst hcm;have HCK1:Hid (jE c1.ck):=aA (by rw[<-HC1.out];exact HCK.out)
    have HC5:=aA (HC4.out.putB2 (c':={ c1 with srcs:=sl,rt:=⟨t1,t2,t3,t4⟩ }) m.zO (fun b hb hm=>by
     rcases mem_cons.1 hm with e|hm
     ·exact e
     ·have:=hrb b hb;rw[mem_singleton.1 hm] at this;omega) (by unfold mW;exact gB) rfl rfl rfl)
    have OB:=aA ((OA.out.trans OO.out (fun x hx=>.inl (xS hx))).trans m.zO (fun x hx=>by
     rcases mem_cons.1 hx with e|hx
     ·exact .inl (by rw[e];simp[Pl.all])
     ·exact hrs x hx))
    have hbk:=hrb P.bk (by simp[Pl.all]);have g1:w.heap[wo.heap.size]? = some (.cells #[.int .i64 0,.int .i64 0] 370 (0,0)):=gB;have g2:=gB (w:=w) (b:=wq.heap.size);unfold MQ at HE;clear m k c HX HJS HC4 HR4 HRT HM;simp only[if_true,Int.reduceEq,if_false] at HE)
   all_goals first
    | (refine (Y7 (w:=w) HC5.out.ck HCK1.out raw r0 r1 av (by omega) (by omega)).mono ?_;generalize jF c1.ck raw av=cr at HE |-)
    | (refine (Y8 (w:=w) HC5.out.ck HCK1.out raw r0 r1 av (by omega) (by omega)).mono ?_;generalize lY c1.ck raw av=cr at HE |-)
   all_goals (
    obtain⟨e2',ck2⟩:=cr;dsimp only at HE |-;rintro e w3 ⟨rfl,hck3,ho3⟩)
   all_goals (
    have HC6:=aA (HC5.out.putK ho3 hck3);have O6:=aA (OB.out.trans ho3 (fun x hx=>.inl (by rw[mem_singleton.1 hx];simp[Pl.all])));have f1:=ho3.got g1 (by simp;omega);have f2:=ho3.got g2 (by simp;omega);have HRB2:=aA (show ∀ b∈P.all,b ∉ [wo.heap.size] from fun b hb hm=>by have:=hrb b hb;rw[mem_singleton.1 hm] at this;omega);clear HC5 OB ho3 hck3 g1 g2;obtain⟨wk,rfl⟩:∃ wk:World,wk=w3:=⟨_,rfl⟩;have m:Mm wk [wo.heap.size] wk _:=⟨((Mem.start wk [wo.heap.size]).ext false f2 (by simp) (by simp)).ext true f1 (by simp;omega) (by simp)⟩;have k:=m.zK;clear f1 f2;by_cases he2:e2'=0)
   all_goals try (
    have he3:=HE.out;rw[if_neg he2] at he3;subst he3;go_wp2_with (first|((with_reducible refine wU ?_);clear k m;intro w m k)|((with_reducible refine lE (fun w o g k K hK=>⟨rfl,?_⟩));simp[results,Tryz.results241,go_sem,k];refine hK _ ?_;exact⟨rfl,⟨P,rfl,HC6.out.off o HRB2.out,fun b hb=>.inl hb⟩,O6.out.trans o hrs⟩))
    done)
   all_goals (
    subst he2;rw[if_pos rfl] at HE)
   all_goals try (
    have he3:=HE.out;subst he3;go_wp2_with (first|((with_reducible refine wU ?_);clear k m;intro w m k)|((with_reducible refine lE (fun w o g k K hK=>⟨rfl,?_⟩));simp[results,Tryz.results241,go_sem,k];refine hK _ ?_;exact⟨rfl,⟨P,rfl,HC6.out.off o HRB2.out,fun b hb=>.inl hb⟩,O6.out.trans o hrs⟩))
    done)
   all_goals (
    obtain⟨cz,hcz⟩:∃ cz,({ cf:=c1.cf,ck:=ck2,sv:=c1.sv,srcs:=sl,last:=c1.last,own:=c1.own,owned:=c1.owned,rt:=⟨t1,t2,t3,t4⟩,st:=c1.st,rd:=c1.rd }:Cl)=cz:=⟨_,rfl⟩;have HZ:=aA hcz;have HC7:Hid (bP wk P cz):=aA (by rw[<-hcz];exact HC6.out);have HCT:Hid (cz.cf=c.cf):=aA (by rw[<-hcz];dsimp only;rw[<-HC1.out]);have HX:=aA (fun w' (o:Oy [wo.heap.size] wk w')=>nZ (HC7.out.off o HRB2.out).cl);have c:=HX.out wk (aR _ wk);clear hcz HC6;go_wp2_with ((with_reducible refine wU ?_);clear k m c;intro w m k;have c:=HX.out w m.zO)
    have Y1:=aA m.out.got.1;have Y2:=aA m.out.got.2.1;have HFN:=aA (pFNew cz.cf.tol (by rw[HCT.out];exact htol.1) (by rw[HCT.out];exact htol.2));have HCL8:=aA HC7.out.len;have hks:=O6.out.size;clear k m c HX;go_loopw [136] (fun vi wr=>FrI wk wk.heap.size P cz vi wr) (fun vi _=>P.ps.length-(intOf vi).toNat)
    case atStart=>exact⟨0,P,Nat.zero_le _,rfl,rfl,rfl,rfl,HC7.out,fun b hb=>.inl hb,aR _ _⟩
    case round =>
     obtain⟨j,Q,hk,rfl,hQ1,hQ2,hQ3,hcl,hQa,ho⟩:=hrel;have hln:Q.ps.length=P.ps.length:=by have:=congrArg List.length hQ3;simpa using this
     by_cases hlt:j<P.ps.length
     ·have hj:j<Q.ps.length:=by omega
      have hjc:j<cz.srcs.length:=by have:=HCL8.out;omega
      have HFL:=aA (RI cz j (by have:=HCL8.out;omega));have hsb:=(hcl.src j hj (by have:=HFL.out;dsimp only;omega)).b;dsimp only at hsb;rw[frK_at hjc] at hsb;have HPF:=aA (fun w' b=>hcl.putF (w':=w') (b:=b) (s':={ cz.srcs[j] with fl:=⟨cz.cf.tol,[]⟩ }) hj);have HAL:=aA (fun b=>KO (P:=Q) (b:=b) hj);have HMP:=aA (fun b=>(KQ (b:=b) hj).trans hQ3);have HSU:=aA (frK_succ hjc);have HSA:=aA (show (frK cz j)[j]'(by have:=HFL.out;omega)=cz.srcs[j] from frK_at hjc);have HND2:=(yF hcl).2.2.2.2.2.2 _ (getElem_mem hj) Q.ps[j].1 (by simp);have hbm:Q.ps[j].1∈P.bs:=by unfold Pl.bs;rw[<-hQ3];exact mem_map.2 ⟨_,getElem_mem hj,rfl⟩
      have cg:wr.cell? ⟨P.g,j,none⟩=some (.pointer (some ⟨Q.ps[j].1,0,none⟩)):=by
       have:=hcl.row.cell lH (i:=j) (j:=0) (x:=Q.ps[j].1) (by rw[getElem?_map,List.getElem?_eq_getElem hj];rfl) (by decide);rw[<-hQ2];simpa [wZ] using this
      have lg:=hcl.row.lt;have hcb:=hcl.cl;unfold mW at hcb;rw[hQ1] at hcb HND2;rw[hQ2] at lg HND2;dsimp only at hcb;have hpl:=aF hsb;have OO:=aA ho;have HX:=aA (fun w' (o:Oy [Q.ps[j].1] wr w')=>And.intro (nZ (o.got hcb (by simpa using HND2.1))) (And.intro (Nat.lt_of_lt_of_le lg o.size) ((o.cell lg (by simpa using HND2.2.2.2)).trans cg)));have HBM:=aA hbm;have HPL:=aA hpl;have HQA:=aA hQa;have HQ:=aA (And.intro hQ1 hQ2);generalize Q.ps[j]=pp at hsb HPF HX HBM HPL cg;obtain⟨pb,pa,pf⟩:=pp;generalize cz.srcs[j]=sv0 at hsb HPF HSU HSA;obtain⟨sa,fl,hr,hp,⟨b1,b2,b3,b4,b5⟩,sent,⟨e1,e2,e3,e4,e5,e6,e7,e8,e9,ea,eb,ec,ed⟩,⟨u1,u2,u3,u4⟩,⟨v1',v2'⟩,pat⟩:=sv0;unfold yK at hsb HPF;dsimp only at hsb HPF HX HBM HPL HSU cg;have hws:=ho.size;have hlt2:(j:Int)<(P.ps.length:Int):=by omega
      clear hcb lg cg HND2 hbm hpl hQ1 hQ2 hQ3 hQa ho;have m:=kV hsb;have k:=m.zK;have c:=HX.out wr (aR _ wr);clear hsb;go_wp2_with (first|((with_reducible refine cX (HFN.out _) ?_);intro w5 x c2 o m5 k5;have hz:=Nat.le_trans m.zO.size c2.1;have hf5:=aA c2.2;clear k m c c2 o;have m:=m5;have k:=k5;clear m5 k5;have c:=HX.out w5 m.zO)|(go_roundw;(case rel=>exact⟨j+1,Q.newF j x hj,by omega,by go_num,HQ.out.1,HQ.out.2,HMP.out x,by rw[HSU.out];exact HPF.out _ x gO hz gB (by rw[HSA.out]) (hf5.out.kept ((aR [pb] w5).setCell (.inl (by simp)) _) (by have:=HPL.out;simp;omega)),fun b hb=>(HAL.out x b hb).elim (HQA.out b) (fun e=>.inr (by rw[e];omega)),OO.out.trans gO (fun y hy=>.inl (by rw[mem_singleton.1 hy];exact HBM.out))⟩);(case measure=>first|(simp[intOf];done)|(simp[intOf];omega))))
     ·obtain rfl:j=P.ps.length:=by omega
      have he3:=HE.out;have hfe:=frK_end cz;rw[<-HCL8.out] at hfe;rw[hfe] at hcl;have HCQ:=aA hcl;have hbs:∀ b,wo.heap.size<=b->b ∉ P.bs:=fun b hb hm=>by have:=hrb b (xS hm);omega
      have z1:=ho.got Y1.out (hbs _ (Nat.le_refl _));have z2:=ho.got Y2.out (hbs _ (by have:=HLW.out;have:=HLW2.out;omega));have hy1:=aF Y1.out;have hws:=ho.size
      have HRBQ:=aA (show ∀ b∈Q.all,b ∉ [wo.heap.size] from fun b hb hm=>by
       rw[mem_singleton.1 hm] at hb;rcases hQa _ hb with h|h
       ·have:=hrb _ h;omega
       ·omega)
      have HQA:=aA (show ∀ b∈Q.all,b∈P.all\/wo.heap.size<=b from fun b hb=>(hQa b hb).imp_right (fun h=>by omega));have O9:=aA (O6.out.trans ho (fun x hx=>.inl (xS hx)));have HQ1:=aA hQ1;have m:Mm wr [wo.heap.size] wr _:=⟨((Mem.start wr [wo.heap.size]).ext false z2 (by simp) (by simp)).ext true z1 (by have:=HLW.out;have:=HLW2.out;simp;omega) (by simp)⟩;have k:=m.zK;subst he3;have hz2:=HZ.out;clear z1 z2 hcl ho hQa hQ1 hQ2 hQ3;go_wp2_with (first|((with_reducible refine wU ?_);clear k m;intro w m k)|((with_reducible refine lE (fun w o g k K hK=>⟨rfl,?_⟩));simp[results,Tryz.results241,go_sem,k];refine hK _ ?_;exact⟨rfl,⟨Q,HQ1.out,(by have h:=HCQ.out.off o HRBQ.out;rw[<-hz2] at h;exact h),HQA.out⟩,O9.out.trans o hrs⟩))))
end
section
open Go.RowKit Go.Sort
def pJ (l:List Cd) (ins:List Int):List Cd:=ins.map fun i=>l[i.toNat]?.getD default
theorem NC (fit:Cd->Bool) (L:List Cd):∀ (r:List Cd) (i:Nat),L.drop i=r->(uX fit r i).map (fun j=>L[j.toNat]?.getD default)=r.filter fit
 | [],_,_=>rfl
 | c::r,i,h=>by
  have hr:L.drop (i+1)=r:=by rw[<-List.drop_drop,h];rfl
  have hc:L[i]? = some c:=by
   have:=congrArg (fun q=>q[0]?) h;simpa using this
  unfold uX;by_cases hf:fit c=true
  ·rw[if_pos hf,List.map_cons,NC fit L r (i+1) hr,List.filter_cons_of_pos hf,Int.toNat_natCast,hc]
   rfl
  ·rw[if_neg hf,NC fit L r (i+1) hr,List.filter_cons_of_neg hf]
theorem pk_lt (fit:Cd->Bool):∀ (r:List Cd) (i:Nat),∀ x∈uX fit r i,(i:Int)<=x/\x<(i:Int)+r.length
 | [],_,x,h=>by simp[uX] at h
 | c::r,i,x,h=>by
  unfold uX at h;have ih:=pk_lt fit r (i+1) x;split at h
  ·rcases mem_cons.1 h with rfl|h
   ·simp;omega
   ·have:=ih h;simp;omega
  ·have:=ih h;simp;omega
theorem PZ {l:List Cd} {ins:List Int} {h:Iv}:∀ (f a:Nat),BH l f a=some (ins,h)->∃ b,2*b<l.length/\EP l b=some (ins,h)
 | 0,_,e=>by simp[BH] at e
 | f+1,a,e=>by
  unfold BH at e;split at e
  ·rename_i hb
   split at e
   ·rename_i x hx
    cases e
    exact⟨a,hb,hx⟩
   ·exact PZ f (a+1) e
  ·cases e
theorem WY {l:List Cd} {ins:List Int} {h:Iv} (hs:sel l=some (ins,h)):0<ins.length/\ins.length<=l.length/\(∀ x∈ins,0<=x/\x<l.length)/\(pJ l ins).Sublist l/\(pJ l ins).length=ins.length:=by
 obtain⟨b,hb,h1⟩:=PZ _ _ hs;unfold EP at h1;split at h1
 ·cases h1
 ·rename_i h2 _
  split at h1
  ·rename_i hle
   simp only[Option.some.injEq,Prod.mk.injEq] at h1;obtain⟨rfl,rfl⟩:=h1;have hl:=zN (NU h2) l 0;refine⟨by omega,hl,fun x hx=>?_,?_,by simp[pJ]⟩
   ·have:=pk_lt (NU h2) l 0 x hx;simp at this;omega
   ·have:=NC (NU h2) l l 0 rfl
    unfold pJ;rw[this];exact List.filter_sublist
  ·cases h1
def fM (c:Cl) (raw:Int):Cl:={ (aI c raw).2.2 with own:=vN (aI c raw).2.2 raw,owned:=raw }
def mY (c:Cl) (raw:Int) (ins:List Int):List Cd:=TM c.cf.keep (pJ (kH (fM c raw) raw) ins)
def UpdR (c:Cl) (raw:Int) (a:Ac) (er:Int) (c':Cl):Prop:=
 ((aI c raw).2.1≠0/\a=⟨0,0⟩/\er=(aI c raw).2.1/\c'=(aI c raw).2.2) \/
 ((aI c raw).2.1=0/\((er≠0/\a=⟨0,0⟩/\c'=fM c raw/\(¬ Gd (kH (fM c raw) raw)\/sel (kH (fM c raw) raw)=none)) \/
  (∃ ins hv,Gd (kH (fM c raw) raw)/\sel (kH (fM c raw) raw)=some (ins,hv)/\(a,er,c')=jB (fM c raw) raw (aI c raw).1 (gZ (mY c raw ins)) (mY c raw ins))))
theorem keep_gd {c:Cl} {raw:Int} {ins:List Int} {hv:Iv} (hk:1<=c.cf.keep) (hg:Gd (kH (fM c raw) raw)) (hs:sel (kH (fM c raw) raw)=some (ins,hv)) :
  Gd (pJ (kH (fM c raw) raw) ins)/\0<(pJ (kH (fM c raw) raw) ins).length/\Gd (mY c raw ins)/\0<(mY c raw ins).length/\∀ k∈mY c raw ins,0<=k.id/\k.id<(fM c raw).srcs.length:=by
 obtain⟨h0,h1,h2,h3,h4⟩:=WY hs;have hgc:=hg.sub h3;have hp:=jG (pJ (kH (fM c raw) raw) ins);obtain⟨q1,q2,q3⟩:=J6 hk (pJ (kH (fM c raw) raw) ins).length (hgc.perm hp) (by rw[hp.length_eq];omega);refine⟨hgc,by omega,q1,q2,fun k hk2=>?_⟩;have hm:=h3.subset (hp.subset (q3 k hk2));unfold kH at hm;split at hm
 ·exact RS _ k hm
 ·cases hm
end
section
open Go.RowKit Go.Sort
def ChI (w:World) (l:List Cd) (ins:List Int) (vo vi:Value) (wr:World):Prop:=
 ∃ k:Nat,k<=ins.length/\vi=.int .i64 k/\Own iZ 382 5 w.heap.size wr vo (pJ l (ins.take k))/\Oy [] w wr
theorem DJ {c:Cl} {raw:Int} (h:(aZ c raw).2=0): -4503599627370496<=(aZ c raw).1/\(aZ c raw).1<=4503599627370496:=by
 unfold aZ at h |-;split at h
 ·rename_i h1
  rw[if_pos h1];split at h
  ·cases h
  ·rename_i h2
   rw[if_neg h2];unfold eP at h |-;split at h
   ·cases h
   ·rename_i h3
    rw[if_neg h3];split at h
    ·cases h
    ·rename_i h4
     rw[if_neg h4];split at h
     ·rename_i h5
      rw[if_pos h5];unfold fQ bZ at h5;simpa using h5
     ·cases h
 ·rename_i h1
  exact absurd h h1
theorem lW (c:Cl) (raw:Int):(aI c raw).2.2.ck=c.ck/\(aI c raw).2.2.sv=c.sv/\(aI c raw).2.2.srcs=c.srcs/\(aI c raw).2.2.cf=c.cf/\(aI c raw).2.2.rd=c.rd/\(aI c raw).2.2.owned=c.owned:=by
 unfold aI;split<;>exact⟨rfl,rfl,rfl,rfl,rfl,rfl⟩
end
section
open Go.RowKit Go.Sort
theorem AB {p:Sr->Prop} {off jit:Int} (hp:∀ s,p s->p (adS off jit s)):∀ (ks:List Cd) (l:List Sr),(∀ s∈l,p s)->∀ s∈EK off jit ks l,p s
 | [],_,h=>h
 | k::r,l,h=>AB hp r _ (fun s hs=>by
  rw[List.mem_iff_getElem?] at hs;obtain⟨i,hi⟩:=hs;rw[List.getElem?_modify] at hi
  cases hx:l[i]? with
  | none=>rw[hx] at hi;simp at hi
  | some y =>
   rw[hx] at hi;have hy:=h y (List.mem_of_getElem? hx);simp only[Option.map_eq_map,Option.map_some,Option.some.injEq] at hi;rw[<-hi];split
   ·exact hp y hy
   ·exact hy)
theorem cFreq_ok {c:Ck} (h:jE c) {r x:Int} (x0: -500000<=x) (x1:x<=500000):jE (lY c r x).2:=by
 unfold lY;split
 ·rename_i he
  obtain⟨h1,h2,h3,-⟩:=qW he;have h4:=aY.1 (show bZ (gD c r) (-4503599627370496) 4503599627370496=true from h3);exact⟨Int.le_trans h.r0 h1,h2,h4.1,h4.2,x0,x1,h.s0,h.s1⟩
 ·exact h
theorem cStep_ok {c:Ck} (h:jE c) {r d:Int}:jE (jF c r d).2:=by
 unfold jF;split
 ·rename_i he
  obtain⟨h1,h2,h3,-⟩:=qW he;split
  ·rename_i hs
   unfold st1 at hs |-;split at hs
   ·rename_i ht
    split at hs
    ·exact absurd hs (by simp)
    ·rename_i hn
     rw[if_pos ht,if_neg hn];have h4:=aY.1 (show bZ (gD c r+d) (-4503599627370496) 4503599627370496=true from ht);have:=h.s0;have:=h.s1;exact⟨Int.le_trans h.r0 h1,h2,h4.1,h4.2,h.p0,h.p1,by dsimp only;omega,by dsimp only;omega⟩
   ·exact absurd hs (by simp)
  ·exact h
 ·exact h
theorem PY (r t p s:Int):gD ⟨r,t,p,s⟩ r=t:=by
 unfold gD;dsimp only;rw[Int.sub_self,Int.zero_mul,Int.zero_ediv];omega
theorem VE {c:Ck} {r x:Int} (he:(eP c r).2=0):eP (lY c r x).2 r=eP c r/\(lY c r x).2.steps=c.steps:=by
 obtain⟨h1,h2,h3,h4⟩:=qW he;unfold lY;rw[if_pos he];refine⟨?_,rfl⟩;rw[h4];unfold eP;dsimp only;rw[if_neg (by omega),if_neg (by omega),PY,if_pos h3]
theorem VD {c:Ck} {r d:Int} (he:(eP c r).2=0) :
  ((jF c r d).1=0->eP (jF c r d).2 r=((eP c r).1+d,0)/\(jF c r d).2.steps=c.steps+1)/\((jF c r d).1≠0->(jF c r d).2=c):=by
 obtain⟨h1,h2,h3,h4⟩:=qW he;unfold jF;rw[if_pos he];by_cases hs:(st1 (gD c r) d c.steps).1=0
 ·rw[if_pos hs]
  refine⟨fun _=>?_,fun h=>absurd rfl h⟩;unfold st1 at hs |-;split at hs
  ·rename_i ht
   split at hs
   ·exact absurd hs (by simp)
   ·rename_i hn
    rw[if_pos ht,if_neg hn,h4];refine⟨?_,rfl⟩;unfold eP;dsimp only;rw[if_neg (by omega),if_neg (by omega),PY,if_pos ht]
  ·exact absurd hs (by simp)
 ·rw[if_neg hs]
  exact⟨fun h=>absurd h hs,fun _=>rfl⟩
theorem show_up {c:Ck} (h:jE c) {r r':Int} (hr:r<=r'):gD c r<=gD c r':=by
 unfold gD;have p0:=h.p0
 have hq:(r-c.raw)*c.ppb / 1000000000-(r'-r)<=(r'-c.raw)*c.ppb / 1000000000:=by
  rw[Int.le_ediv_iff_mul_le (by decide)];have h1:(r'-c.raw)*c.ppb=(r-c.raw)*c.ppb+(r'-r)*c.ppb:=by rw[<-Int.add_mul];congr 1;omega
  have h2:=Int.mul_le_mul_of_nonneg_left (a:=-500000) (b:=c.ppb) (c:=r'-r) p0 (by omega);have h3:=Int.ediv_mul_le ((r-c.raw)*c.ppb) (b:=1000000000) (by decide);rw[h1,Int.sub_mul];omega
 omega
theorem RY {c:Ck} (h:jE c) {r r':Int} (hr:r<=r') (h1:(eP c r).2=0) (h2:(eP c r').2=0):(eP c r).1<=(eP c r').1:=by
 rw[(qW h1).2.2.2,(qW h2).2.2.2];exact show_up h hr
structure qB (c:Cl):Prop where
 ok:tK c
 sv:JG c.sv
 g:∀ s∈c.srcs,JH s
 tol:0<=c.cf.tol/\c.cf.tol<=500000
 kp:1<=c.cf.keep
 rd: -4503599627370496<=c.rd/\c.rd<=4503599627370496
theorem qB.enter {c:Cl} {raw:Int} (h:qB c):qB (aI c raw).2.2:=by
 obtain⟨h1,h2,h3,h4,h5,h6⟩:=lW c raw;exact⟨⟨h1 ▸ h.ok.ck,h3 ▸ h.ok.src,h6 ▸ h.ok.own,h4 ▸ h.ok.s0,h4 ▸ h.ok.s1,by rw[h3,h4];exact h.ok.len⟩,h2 ▸ h.sv,h3 ▸ h.g,h4 ▸ h.tol,h4 ▸ h.kp,h5 ▸ h.rd⟩
theorem qB.upB {c:Cl} {raw:Int} (h:qB c) (he:(aI c raw).2.1=0):qB (fM c raw):=by
 have hr:=rM he h.ok.ck;have h':=h.enter (raw:=raw);exact⟨⟨h'.ok.ck,h'.ok.src,hr,h'.ok.s0,h'.ok.s1,h'.ok.len⟩,h'.sv,h'.g,h'.tol,h'.kp,h'.rd⟩
theorem qB.stM {c:Cl} {now off:Int} {kept:List Cd} (h:qB c) (hn: -4503599627370496<=now/\now<=4503599627370496) (he:(fZ c.sv off (uF c now)).2.1=0):qB (qC c now off kept):=by
 refine⟨⟨h.ok.ck,?_,h.ok.own,h.ok.s0,h.ok.s1,?_⟩,(GD h.sv he).1,?_,h.tol,h.kp,hn⟩
 ·exact AB (p:=qE) (fun s hs=>hs) _ _ h.ok.src
 ·show ((EK off (xG kept) kept c.srcs).length:Int)=c.cf.servers
  rw[SG];exact h.ok.len
 ·exact AB (p:=JH) (fun s hs=>⟨hs.fl,hs.r1,hs.r2⟩) _ _ h.g
theorem qB.ck {c:Cl} {k:Ck} (h:qB c) (hk:jE k):qB { c with ck:=k } :=
 ⟨⟨hk,h.ok.src,h.ok.own,h.ok.s0,h.ok.s1,h.ok.len⟩,h.sv,h.g,h.tol,h.kp,h.rd⟩
theorem qB.fresh {c:Cl} (h:qB c):qB { c with srcs:=gQ c }:=by
 refine⟨⟨h.ok.ck,?_,h.ok.own,h.ok.s0,h.ok.s1,?_⟩,h.sv,?_,h.tol,h.kp,h.rd⟩
 ·intro s hs
  obtain⟨y,hy,rfl⟩:=mem_map.1 hs;exact h.ok.src y hy
 ·show ((gQ c).length:Int)=c.cf.servers
  unfold gQ;rw[List.length_map];exact h.ok.len
 ·intro s hs
  obtain⟨y,hy,rfl⟩:=mem_map.1 hs;exact⟨fun x hx=>absurd hx (by simp),(h.g y hy).r1,(h.g y hy).r2⟩
theorem qB.sp {c:Cl} {now:Int} (h:qB c) (hn: -4503599627370496<=now/\now<=4503599627370496):qB { c with st:=true,rd:=now } :=
 ⟨⟨h.ok.ck,h.ok.src,h.ok.own,h.ok.s0,h.ok.s1,h.ok.len⟩,h.sv,h.g,h.tol,h.kp,hn⟩
theorem qB.str {c:Cl} {raw now off:Int} {kept:List Cd} (h:qB c) (hn: -4503599627370496<=now/\now<=4503599627370496) (he:(eP c.ck raw).2=0) :
  qB (jB c raw now off kept).2.2/\(jB c raw now off kept).2.2.last=c.last /\
  (if (jB c raw now off kept).1.kind=2 then eP (jB c raw now off kept).2.2.ck raw=((eP c.ck raw).1+(jB c raw now off kept).1.val,0)/\(jB c raw now off kept).2.2.ck.steps=c.ck.steps+1
   else eP (jB c raw now off kept).2.2.ck raw=eP c.ck raw/\(jB c raw now off kept).2.2.ck.steps=c.ck.steps):=by
 unfold jB;by_cases hs:(fZ c.sv off (uF c now)).2.1=0
 ·rw[if_pos hs]
  have hM:=h.stM (kept:=kept) hn hs;have hMc:(qC c now off kept).ck=c.ck:=rfl;have hMl:(qC c now off kept).last=c.last:=rfl;obtain⟨-,hb⟩:=GD h.sv hs;generalize fZ c.sv off (uF c now)=se at hb |-;obtain⟨⟨ak,av⟩,er,sv2⟩:=se;generalize qC c now off kept=cm at hM hMc hMl |-;dsimp only at hb |-;unfold MQ;dsimp only;rcases hb with ⟨rfl,-,-⟩|⟨rfl,x0,x1⟩
  ·simp only[if_true]
   have hst:=VD (c:=cm.ck) (r:=raw) (d:=av) (by rw[hMc];exact he);have hok:=cStep_ok hM.ok.ck (r:=raw) (d:=av);by_cases hz:(jF cm.ck raw av).1=0
   ·rw[if_pos hz]
    obtain⟨q1,q2⟩:=hst.1 hz;refine⟨(hM.fresh).ck hok,hMl,?_⟩;simp only[if_true];rw[q1,q2,hMc];exact⟨rfl,rfl⟩
   ·rw[if_neg hz]
    refine⟨hM.ck hok,hMl,?_⟩;rw[if_neg (by simp)];dsimp only;rw[hst.2 hz,hMc];exact⟨rfl,rfl⟩
  ·simp only[show ¬ ((1:Int)=2) by decide,if_false]
   have hst:=VE (c:=cm.ck) (r:=raw) (x:=av) (by rw[hMc];exact he);have hok:=cFreq_ok hM.ok.ck (r:=raw) x0 x1;by_cases hz:(lY cm.ck raw av).1=0
   ·rw[if_pos hz]
    refine⟨hM.ck hok,hMl,?_⟩;simp only[show ¬ ((1:Int)=2) by decide,if_false];rw[hst.1,hst.2,hMc];exact⟨rfl,rfl⟩
   ·rw[if_neg hz]
    refine⟨hM.ck hok,hMl,?_⟩;rw[if_neg (by simp)];dsimp only;rw[hst.1,hst.2,hMc];exact⟨rfl,rfl⟩
 ·rw[if_neg hs]
  refine⟨h.sp hn,rfl,?_⟩;rw[if_neg (by simp)];exact⟨rfl,rfl⟩
theorem wF {c:Cl} {raw:Int} (h:(aZ c raw).2=0):(eP c.ck raw).2=0/\c.last<=raw/\aZ c raw=eP c.ck raw:=by
 unfold aZ at h |-;split at h
 ·rename_i h1
  split at h
  ·exact absurd h (by simp)
  ·rename_i h2
   refine⟨h1,by omega,?_⟩;rw[if_pos h1,if_neg h2]
 ·rename_i h1
  exact absurd h h1
theorem DI {c:Cl} {raw:Int} (h:(eP c.ck raw).2=0) (hl:c.last<=raw):aZ c raw=eP c.ck raw:=by
 unfold aZ;rw[if_pos h,if_neg (by omega)]
theorem jK {c:Cl} {raw:Int} (h:(aZ c raw).2=0):aI c raw=((aZ c raw).1,0,{ c with last:=raw }):=by
 unfold aI;rw[if_pos h]
theorem qB.upd {c c':Cl} {raw er:Int} {a:Ac} (h:qB c) (hu:UpdR c raw a er c'):qB c'/\((aZ c raw).2=0 ->
  (if a.kind=2 then aZ c' raw=((aZ c raw).1+a.val,0)/\c'.ck.steps=c.ck.steps+1 else aZ c' raw=aZ c raw/\c'.ck.steps=c.ck.steps)):=by
 rcases hu with ⟨h1,h2,h3,h4⟩|⟨h1,⟨h2,h3,h4,-⟩|⟨ins,hv,-,-,h4⟩⟩
 ·refine⟨h4 ▸ h.enter,fun hn=>?_⟩
  rw[jK hn] at h1;exact absurd rfl h1
 ·refine⟨h4 ▸ h.upB h1,fun hn=>?_⟩
  obtain⟨q1,q2,q3⟩:=wF hn;have hck:c'.ck=c.ck:=by rw[h4];exact (lW c raw).1
  have hla:c'.last=raw:=by
   rw[h4];show (aI c raw).2.2.last=raw
   rw[jK hn]
  rw[if_neg (by rw[h3];simp)];exact⟨by rw[DI (by rw[hck];exact q1) (by omega),hck,q3],by rw[hck]⟩
 ·have hn:=sG h1
  obtain⟨q1,q2,q3⟩:=wF hn;have hck:(fM c raw).ck=c.ck:=(lW c raw).1
  have hla:(fM c raw).last=raw:=by
   show (aI c raw).2.2.last=raw
   rw[jK hn]
  have hb: -4503599627370496<=(aI c raw).1/\(aI c raw).1<=4503599627370496:=by rw[jK hn];exact DJ hn
  obtain⟨r1,r2,r3⟩:=(h.upB h1).str (raw:=raw) (now:=(aI c raw).1) (off:=gZ (mY c raw ins)) (kept:=mY c raw ins) hb (by rw[hck];exact q1);rw[<-h4] at r1 r2 r3;dsimp only at r1 r2 r3;refine⟨r1,fun _=>?_⟩;rw[hck] at r3;rw[q3];split
  ·rename_i hk
   rw[if_pos hk] at r3;exact⟨by rw[DI (by rw[r3.1]) (by omega),r3.1],r3.2⟩
  ·rename_i hk
   rw[if_neg hk] at r3;exact⟨by rw[DI (by rw[r3.1];exact q1) (by omega),r3.1],r3.2⟩
end
section
open Go.RowKit Go.Sort
theorem K8 {f:Fl} {s:iU} (h:∀ x∈f.l,gJ x=0):∀ x∈(IY f s).1.l,gJ x=0:=by
 have hp (hs:gJ s=0):∀ x∈(wC f s).l,gJ x=0:=fun x hx=>by
  unfold wC at hx;rcases List.mem_append.1 hx with hx|hx
  ·split at hx
   ·exact h x (List.mem_of_mem_drop hx)
   ·exact h x hx
  ·rw[mem_singleton.1 hx];exact hs
 unfold IY;split
 ·rename_i hs
  split
  ·split
   ·exact h
   ·exact hp hs
  ·exact hp hs
 ·exact h
theorem sSend_g {s:Sr} {raw now nonce:Int} (h:JH s):JH (iF s raw now nonce).2.2:=by
 unfold iF;split<;>exact⟨h.fl,h.r1,h.r2⟩
theorem XI {s:Sr} {iv:Iv} {raw tol:Int} (h:JH s):JH (iV s iv raw tol):=by
 unfold iV;split
 ·split
  ·exact h
  ·exact⟨h.fl,h.r1,h.r2⟩
 ·exact h
theorem sMeas_g {s:Sr} {i:Int} {p:Np} {q:Qd} {prec tol:Int} (h:JH s) (hp:fA p):JH (mQ s i p q prec tol):=by
 unfold mQ;split
 ·split
  ·exact⟨K8 h.fl,hp.1,hp.2.1⟩
  ·exact⟨K8 h.fl,h.r1,h.r2⟩
 ·exact h
theorem sRecv_g {s:Sr} {i:Int} {p:Np} {iv:Iv} {has:Bool} {raw now prec tol:Int} (h:JH s) (hp:fA p):JH (kJ s i p iv has raw now prec tol).2:=by
 unfold kJ;split
 ·exact⟨h.fl,h.r1,h.r2⟩
 ·split
  ·dsimp only
   refine sMeas_g ?_ hp;have hh:JH (yX s (jV s.sa p now).2):=⟨h.fl,h.r1,h.r2⟩;split
   ·exact XI hh
   ·exact hh
  ·exact⟨h.fl,h.r1,h.r2⟩
theorem sr0_g (c:Cf):JH (pU c):=⟨fun x hx=>absurd hx (by simp[pU]),(by decide:(0:Int)<=0/\(0:Int)<=4294967295),(by decide:(0:Int)<=0/\(0:Int)<=4294967295)⟩
theorem getD_g {l:List Sr} {i:Nat} {c:Cf} (h:∀ x∈l,JH x):JH (l.getD i (pU c)):=by
 rw[List.getD_eq_getElem?_getD]
 cases hh:l[i]? with
 | none=>exact sr0_g c
 | some s=>exact h s (List.mem_of_getElem? hh)
theorem g_set {l:List Sr} {i:Nat} {s:Sr} (h:∀ x∈l,JH x) (hs:JH s):∀ x∈l.set i s,JH x:=fun x hx=>by
 rcases List.mem_or_eq_of_mem_set hx with h'|rfl
 ·exact h x h'
 ·exact hs
theorem qB.send {c:Cl} (h:qB c) (server raw nonce:Int):qB (dP c server raw nonce).2:=by
 refine⟨h.ok.send _ _ _,?_,?_,?_,?_,?_⟩<;>unfold dP<;>split<;>(try split)<;>first
  | exact h.sv
  | exact h.g
  | exact h.tol
  | exact h.kp
  | exact h.rd
  | exact g_set h.g (sSend_g (getD_g h.g))
  | exact (h.enter (raw:=raw)).sv
  | exact (h.enter (raw:=raw)).tol
  | exact (h.enter (raw:=raw)).kp
  | exact (h.enter (raw:=raw)).rd
theorem qB.recv {c:Cl} (h:qB c) (server:Int) {p:Np} (hp:fA p) (iv:Iv) (has:Bool) (raw:Int):qB (fJ c server p iv has raw).2:=by
 refine⟨h.ok.recv _ _ _ _ _,?_,?_,?_,?_,?_⟩<;>unfold fJ<;>split<;>(try split)<;>first
  | exact h.sv
  | exact h.g
  | exact h.tol
  | exact h.kp
  | exact h.rd
  | exact g_set h.g (sRecv_g (getD_g h.g) hp)
  | exact (h.enter (raw:=raw)).sv
  | exact (h.enter (raw:=raw)).tol
  | exact (h.enter (raw:=raw)).kp
  | exact (h.enter (raw:=raw)).rd
theorem nX {c:Cf} (h:eZ c=0):(1<=c.servers/\c.servers<=12)/\(0<=c.tol/\c.tol<=500000)/\(1<=c.keep/\c.keep<=12)/\tQ c.sv=0:=by
 unfold eZ at h;split at h
 ·rename_i h1
  simp only[Bool.and_eq_true,aY] at h1;split at h
  ·rename_i h2
   exact⟨h1.1,h1.2.1,h1.2.2.2,h2⟩
  ·rename_i h2
   exact absurd h h2
 ·exact absurd h (by decide)
theorem qB.new {c:Cf} (h:eZ c=0):qB (I8 c 0 0):=by
 obtain⟨h1,h2,h3,h4⟩:=nX h
 have hs:JG ⟨c.sv,0,0,0⟩:=by
  unfold tQ at h4;split at h4
  ·rename_i h5
   simp only[Bool.and_eq_true,aY] at h5;obtain⟨a,b,d,e,f⟩:=h5;exact⟨a.1,a.2,b.1,b.2,d.1,d.2,e,f,by dsimp only;omega,by dsimp only;omega⟩
  ·exact absurd h4 (by decide)
 refine⟨tK.new (by decide) (by decide) h1,hs,?_,h2,h3.1,?_⟩
 ·intro s hs
  obtain rfl:=(List.mem_replicate.1 hs).2;exact sr0_g c
 ·show (-4503599627370496:Int)<=0/\(0:Int)<=4503599627370496
  decide
end
end Go.Proofs.YtppjhbjmfkiejaaGreat
