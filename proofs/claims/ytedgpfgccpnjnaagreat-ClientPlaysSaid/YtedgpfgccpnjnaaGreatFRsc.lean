/- Rsc Rsd -/
import Derived.Test.YtedgpfgccpnjnaaGreatFRsb
import Derived.Test.YtedgpfgccpnjnaaGreatFRri
import Derived.Test.YtedgpfgccpnjnaaGreatFRrd
import Derived.Test.YtedgpfgccpnjnaaGreatFJl
import Derived.Test.YtedgpfgccpnjnaaGreatFRs1
namespace Go.Proofs.YtedgpfgccpnjnaaGreat
section
open Go.Lib (hid)
set_option maxRecDepth 100000
set_option maxHeartbeats 16000000
open Go.RowKit Go.Sort
theorem cndC_le (c:Cl) (raw:Int):(cndC c raw).length≤c.srcs.length:=by
 unfold cndC;split
 ·exact cndR_len _ _ _
 ·exact Nat.zero_le _
def PickR (w0:World) (c:Cl) (raw:Int) (e:Ending) (w:World):Prop:=
 (∃ er:Int,er≠0∧er=selE (cndC c raw)∧e=.returned (.tuple #[.slice none 0 0,.int .i64 er])) ∨
 (∃ ins hv v,Gd (cndC c raw)∧sel (cndC c raw)=some (ins,hv)∧e=.returned (.tuple #[v,.int .i64 0])∧Own cdC 146 5 w0.heap.size w v (prnC c.cf.keep (chsC (cndC c raw) ins)))
theorem qPicked {M:List Nat} {w:World} {P:Pl} {c:Cl} (h:QClAt M w P c) (hok:CkOk c.ck) (hn:P.ps.length≤12) (htl:0≤c.cf.tol∧c.cf.tol≤500000) (hft:∀ s∈c.srcs,s.fl.tol=c.cf.tol) (hg:∀ s∈c.srcs,SrG s) (hri:∀ s∈c.srcs,Ris s.fl.l∧s.fl.l.length≤8) (hkp:1≤c.cf.keep) (raw:Int) :
  Calls Tryz.prog 71 #[.pointer (some ⟨P.bc,0,none⟩),.int .i64 raw] w fun e w'=>PickR w c raw e w'∧Only [] w w':=by
 have HC:=hid h;have HCA:=hid (fun w' (o:Only [] w w')=>qCands (h.kept o) hok hn htl hft hg hri raw);have hl12:(cndC c raw).length≤12:=Nat.le_trans (cndC_le c raw) (h.len ▸ hn);obtain⟨R,HR⟩:∃ R,Hid (R=PickR w c raw):=⟨_,hid rfl⟩;rw[←HR.out];have HRS:=hid (show ∀ (er:Int) (w':World),er≠0→er=selE (cndC c raw)→R (.returned (.tuple #[.slice none 0 0,.int .i64 er])) w' from fun er w' h1 h2=>by rw[HR.out];exact .inl ⟨er,h1,h2,rfl⟩);have HRG:=hid (show ∀ ins hv v w',Gd (cndC c raw)→sel (cndC c raw)=some (ins,hv)→Own cdC 146 5 w.heap.size w' v (prnC c.cf.keep (chsC (cndC c raw) ins))→R (.returned (.tuple #[v,.int .i64 0])) w' from fun ins hv v w' h1 h2 h3=>by rw[HR.out];exact .inr ⟨ins,hv,v,h1,h2,rfl,h3⟩);generalize cndC c raw=l at HCA hl12 HRS HRG;have HKP:=hid hkp;clear h hok hg HR hkp hft hri;obtain⟨wo,hwo⟩:∃ wo:World,wo=w:=⟨_,rfl⟩;subst hwo;have m:=mm0 wo [];have k:=m.out.k;go_enter Tryz.func71,Tryz.ntmps71
 go_wp2_with ((with_reducible first|refine cU ?_|refine wU ?_);clear k m;intro w m k)
 refine (HCA.out _ m.out.only).mono ?_;rintro e w2 ⟨⟨v,rfl,hown⟩,ho2⟩;have O2:=hid (m.out.only.nil_trans ho2);obtain⟨pv,cap,rfl,hv⟩:=Own.vrow (enc:=cdC) (s:=5) cdC_len hown;have HV:=hid hv;clear k m HCA ho2 hown hv;go_wp2_with fail
 refine (qSelect HV.out (by omega)).mono ?_;rintro e w5 ⟨⟨v5,⟨i1,i2⟩,ins,er,rfl,hown5,hex,hcase⟩,ho5⟩;unfold ivV;have O5:=hid (O2.out.nil_trans ho5);have HV6:=hid (HV.out.kept ho5);obtain⟨pq,capq,rfl,hv5⟩:=Own.vrow (enc:=intC) (s:=1) intC_len hown5;have HI6:=hid hv5;clear HV ho5 hown5 hv5;obtain⟨wp3,hwp3⟩:∃ wp3:World,wp3=w5:=⟨_,rfl⟩;subst hwp3;have m:=mm0 wp3 [];have k:=m.out.k;by_cases he:er=0
 rotate_left
 ·have q1:(er != 0)=true:=by simpa using he
  have HEX:=hid hex;clear hcase hex;go_wp2_with (first|((with_reducible first|refine cU ?_|refine wU ?_);clear k m;intro w m k)|((with_reducible refine lE (fun w o g k K hK=>⟨rfl,?_⟩));simp[results,Tryz.results71,go_sem];refine hK _ ?_;exact⟨HRS.out er w he HEX.out,O5.out.nil_trans o⟩))
 subst he;obtain⟨hgd,hsel⟩:=hcase rfl;obtain⟨hi0,hi1,hi2,hi3,hi4⟩:=sel_in hsel;have HRG2:=hid (fun v w'=>HRG.out ins _ v w' hgd hsel);have HGC:=hid (hgd.sub hi3);have HIN:=hid hi2;have HI4:=hid (show 0<(chsC l ins).length by omega);clear hi4 hcase hex HRS HRG hgd hsel hi2 hi3;go_wp2_with ((with_reducible first|refine cU ?_|refine wU ?_);clear k m;intro w m k)
 have O7:=hid (O5.out.nil_trans m.out.only);have HV7:=hid (HV6.out.kept m.out.only);have HI7:=hid (HI6.out.kept m.out.only);obtain⟨wl,hwl⟩:∃ wl:World,wl=w:=⟨_,rfl⟩;subst hwl;clear k m HV6 HI6 O5;obtain⟨bl,ol,rfl,hbl2,hcl2⟩:=HV7.out.at (by omega);have HCL:=hid hcl2;clear hcl2;go_loopw [10,11] (fun vo vi wr=>∃ k:Nat,k≤ins.length∧vi=.int .i64 k∧Own cdC 146 5 wl.heap.size wr vo (chsC l (ins.take k))∧Only [] wl wr) (fun _ vi _=>ins.length-(intOf vi).toNat)
 case atStart=>exact⟨0,Nat.zero_le _,rfl,own_nil _ _,Only.refl _ _⟩
 case round =>
  obtain⟨k,hk,rfl,hown,ho⟩:=hrel;have OW:=hid hown;have OO:=hid ho;by_cases hlt:k<ins.length
  ·have hik:=HIN.out _ (List.getElem_mem hlt)
   have HSN:Hid (chsC l (ins.take (k+1))=chsC l (ins.take k) ++ [l[ins[k].toNat]?.getD default]):=hid (by unfold chsC;rw[take_snoc ins hlt,List.map_append];rfl);have hcn:(chsC l (ins.take k)).length≤12:=by unfold chsC;rw[List.length_map,List.length_take];omega
   obtain⟨bi,oi,rfl,hbi,hci⟩:=HI7.out.i64 ho hlt;have hlw:=Nat.lt_of_lt_of_le hbi ho.size;generalize ins[k]=x at HSN hik hci;obtain⟨i,rfl⟩:∃ i:Nat,x=(i:Int):=⟨x.toNat,by omega⟩;have hil:i<l.length:=by omega
   have hil2:(i:Int)<(l.length:Int):=by omega
   rw[Int.toNat_natCast,List.getElem?_eq_getElem hil,Option.getD_some] at HSN;have hcd:=fun w' (o:Only [] wl w')=>HCL.out i hil w' o;generalize l[i]=d at HSN hcd;obtain⟨d1,d2,d3,d4,d5⟩:=d;simp only[CdF] at hcd;generalize chsC l (ins.take k)=acc at OW HSN hcn;have HX:=hid (fun w' (o:Only [] wr w')=>And.intro (Nat.lt_of_lt_of_le hlw o.size) (And.intro ((o.cell hlw (by simp)).trans hci) (hcd w' (OO.out.nil_trans o))));clear hcd hci hik hown ho hbi hlw;obtain⟨pa,cap2,rfl,-⟩:=Own.vrow (enc:=cdC) (s:=5) cdC_len OW.out;have HKL:=hid hlt;have hlt2:(k:Int)<(ins.length:Int):=by omega
   have c:=HX.out wr (Only.refl _ wr);have m:=mm0 wr [];go_wp2_with (at_builtin;refine stop_here ?_)
   refine alloc_abs (G:=fun w0=>Stop (wpList _ _ _ _ _ w0)) ?_;intro w5 hb5 ho5 hs5;have B5:=hid hb5;have O5:=hid (OO.out.nil_trans ho5);have R5:=hid (OW.out.kept ho5);clear hb5 ho5 hs5;refine stop_go ?_;refine wpList_append_oneS (S:=[]) (w0:=wl) rfl _ _ 101 rfl 146 cdZ 5 40 Tryz.underlying101 cd_info rfl (by decide) cdC cdC_len cdC_one acc (.slice pa acc.length cap2) rfl R5.out wr.heap.size ⟨d1,d2,d3,d4,d5⟩ rfl (fun j u hj=>?_) (by simp[maxLen];omega) (by omega) O5.out ?_
   ·rw[cell_got B5.out,←hj];simp[cdC]
   intro v6 w6 hown6 ho6 _;have W6:=hid hown6;have O6:=hid ho6;clear hown6 ho6;go_wp2;go_roundw
   case rel=>exact⟨_,Nat.succ_le_of_lt HKL.out,by go_num,by rw[HSN.out];exact W6.out,O6.out⟩
   case measure=>first|(have:=HKL.out;simp[intOf];done)|(have:=HKL.out;simp[intOf];omega)
  ·obtain rfl:k=ins.length:=by omega
   rw[List.take_length] at OW;obtain⟨wp5,hwp5⟩:∃ wp5:World,wp5=wr:=⟨_,rfl⟩;subst hwp5;obtain⟨pa,cap2,rfl,hvt⟩:=Own.vrow (enc:=cdC) (s:=5) cdC_len OW.out;have HPR:=hid (fun w' (o:Only [] wp5 w')=>qPrnC (hvt.kept o) HGC.out HI4.out c.cf.keep HKP.out);have hcb9:=(HC.out.kept (O7.out.nil_trans ho)).cl;unfold QClB at hcb9;have O9:=hid (O7.out.nil_trans ho);generalize prnC c.cf.keep (chsC l ins)=kp at HPR HRG2;generalize chsC l ins=tc at HPR ⊢;clear HI4;clear OW OO O7 hvt HI7 HCL ho;have m:=mmR hcb9;have k:=m.out.k;clear hcb9;go_wp2_with ((with_reducible first|refine cU ?_|refine wU ?_);clear k m;intro w m k)
   refine (HPR.out _ m.out.only).mono ?_;rintro e w7 ⟨⟨g,rfl,hrow⟩,ho7⟩;have OF:=hid (O9.out.nil_trans (m.out.only.nil_trans ho7));have HF:=hid (fun w' (o:Only [] w7 w')=>HRG2.out g w' ((hrow.lower (O9.out.nil_trans m.out.only).size).kept o));clear k m ho7 hrow HPR;have m:=mm0 w7 [];have k:=m.out.k;go_wp2_with (first|((with_reducible first|refine cU ?_|refine wU ?_);clear k m;intro w m k)|((with_reducible refine lE (fun w o g k K hK=>⟨rfl,?_⟩));simp[results,Tryz.results71,go_sem];refine hK _ ?_;exact⟨HF.out w o,OF.out.nil_trans o⟩))
end
section
open Go.RowKit Go.Sort
theorem pl_ndQ {P:Pl} (hnd:P.all.Nodup):P.bc≠P.bk∧P.bc≠P.bv∧P.bc≠P.g∧P.bk≠P.bv∧P.bk≠P.g∧P.bv≠P.g∧(∀ p∈P.ps,∀ x∈[p.1,p.2.1,p.2.2],P.bc≠x∧P.bk≠x∧P.bv≠x∧P.g≠x):=by
 unfold Pl.all at hnd;simp only[List.nodup_cons,List.mem_cons,not_or] at hnd;obtain⟨⟨n1,n2,n3,n4⟩,⟨n5,n6,n7⟩,⟨n8,n9⟩,n10,n11⟩:=hnd;refine⟨n1,n2,n3,n5,n6,n8,fun p hp x hx=>?_⟩;have hm:x∈P.ps.flatMap fun p=>[p.1,p.2.1,p.2.2]:=List.mem_flatMap.2 ⟨p,hp,hx⟩;exact⟨fun e=>n4 (e ▸ hm),fun e=>n7 (e ▸ hm),fun e=>n9 (e ▸ hm),fun e=>n10 (e ▸ hm)⟩
theorem ps_all {P:Pl} {i:Nat} (hi:i<P.ps.length):∀ x∈[P.ps[i].1,P.ps[i].2.1,P.ps[i].2.2],x∈P.all:=fun x hx=>by
 unfold Pl.all;simp only[List.mem_cons];exact .inr (.inr (.inr (.inr (List.mem_flatMap.2 ⟨P.ps[i],List.getElem_mem hi,hx⟩))))
theorem QClAt.up {M S:List Nat} {w w':World} {P:Pl} {c c':Cl} (h:QClAt M w P c) (ho:Only S w w') (hb:QClB w' P c') (hk:QCkAt w' P.bk c'.ck) (hv:QSvAt w' P.bv c'.sv) (hg:P.g ∉ S) (hl:c'.srcs.length=c.srcs.length) (hs:∀ i (hi:i<P.ps.length) (hi':i<c'.srcs.length),QSrAt M w' P.ps[i] c'.srcs[i]):QClAt M w' P c':=
 ⟨hb,hk,hv,h.row.kept ho hg,by rw[hl];exact h.len,hs,h.nd,fun b hb=>Nat.lt_of_lt_of_le (h.lt b hb) ho.size,h.sub,fun b hb=>Nat.lt_of_lt_of_le (h.ml b hb) ho.size⟩
theorem QClAt.putV {M:List Nat} {w w':World} {P:Pl} {c:Cl} {sv':Sv} (h:QClAt M w P c) (ho:Only [P.bv] w w') (hv:QSvAt w' P.bv sv'):QClAt M w' P { c with sv:=sv' }:=by
 obtain⟨n1,n2,n3,n4,n5,n6,n7⟩:=pl_ndQ h.nd;refine h.up ho (ho.got (b:=P.bc) h.cl (by simpa using n2)) (ho.got (b:=P.bk) h.ck (by simpa using n4)) hv (by simpa using Ne.symm n6) rfl fun i hi hi'=>?_;have ap:∀ x∈[P.ps[i].1,P.ps[i].2.1,P.ps[i].2.2],x ∉ [P.bv]:=fun x hx=>by simpa using Ne.symm (n7 _ (List.getElem_mem hi) x hx).2.2.1
 exact (h.src i hi hi').kept ho (ap _ (by simp)) (ap _ (by simp)) (ap _ (by simp)) (fun x hx=>.inl (h.sub x (by rw[List.mem_singleton.1 hx];simp[Pl.all])))
theorem QClAt.putK {M:List Nat} {w w':World} {P:Pl} {c:Cl} {ck':Ck} (h:QClAt M w P c) (ho:Only [P.bk] w w') (hk:QCkAt w' P.bk ck'):QClAt M w' P { c with ck:=ck' }:=by
 obtain⟨n1,n2,n3,n4,n5,n6,n7⟩:=pl_ndQ h.nd;refine h.up ho (ho.got (b:=P.bc) h.cl (by simpa using n1)) hk (ho.got (b:=P.bv) h.sv (by simpa using Ne.symm n4)) (by simpa using Ne.symm n5) rfl fun i hi hi'=>?_;have ap:∀ x∈[P.ps[i].1,P.ps[i].2.1,P.ps[i].2.2],x ∉ [P.bk]:=fun x hx=>by simpa using Ne.symm (n7 _ (List.getElem_mem hi) x hx).2.1
 exact (h.src i hi hi').kept ho (ap _ (by simp)) (ap _ (by simp)) (ap _ (by simp)) (fun x hx=>.inl (h.sub x (by rw[List.mem_singleton.1 hx];simp[Pl.all])))
theorem QClAt.putB2 {M S:List Nat} {w w':World} {P:Pl} {c c':Cl} (h:QClAt M w P c) (ho:Only S w w') (hS:∀ b∈P.all,b∈S→b=P.bc) (hM:∀ x∈S,x∈M∨w.heap.size≤x) (hb:QClB w' P c') (h1:c'.ck=c.ck) (h2:c'.sv=c.sv) (h3:c'.srcs=c.srcs):QClAt M w' P c':=by
 obtain⟨n1,n2,n3,n4,n5,n6,n7⟩:=pl_ndQ h.nd;have key:∀ b∈P.all,b≠P.bc→b ∉ S:=fun b hb hn hm=>hn (hS b hb hm);refine h.up ho hb (by rw[h1];exact ho.got h.ck (key _ (by simp[Pl.all]) (Ne.symm n1))) (by rw[h2];exact ho.got h.sv (key _ (by simp[Pl.all]) (Ne.symm n2))) (key _ (by simp[Pl.all]) (Ne.symm n3)) (by rw[h3]) ?_;rw[h3];intro i hi hi';have ap:∀ x∈[P.ps[i].1,P.ps[i].2.1,P.ps[i].2.2],x ∉ S:=fun x hx=>key x (ps_all hi x hx) (Ne.symm (n7 _ (List.getElem_mem hi) x hx).1);exact (h.src i hi hi').kept ho (ap _ (by simp)) (ap _ (by simp)) (ap _ (by simp)) hM
theorem QClAt.putR {M:List Nat} {w w':World} {P:Pl} {c:Cl} {s':Sr} (h:QClAt M w P c) (i:Nat) (hi:i<P.ps.length) (ho:Only [P.ps[i].1] w w') (hb:QSrB w' P.ps[i].1 P.ps[i].2.1 P.ps[i].2.2 s') (h1:s'.sa=(c.srcs[i]'(h.len ▸ hi)).sa) (h2:s'.fl=(c.srcs[i]'(h.len ▸ hi)).fl):QClAt M w' P { c with srcs:=c.srcs.set i s' }:=by
 have hs:=h.src i hi (h.len ▸ hi);obtain⟨-,q1,q2,-⟩:=pl_at h.nd hi (pb:=P.ps[i].1) (pa:=P.ps[i].2.1) (pf:=P.ps[i].2.2) rfl;have hM:∀ x∈[P.ps[i].1],x∈M∨w.heap.size≤x:=fun x hx=>.inl (h.sub x (ps_all hi x (by rw[List.mem_singleton.1 hx];simp)));exact h.putS i hi ho (by simp) ⟨hb,by rw[h1];exact hs.a.kept ho (by simpa using q1.symm),by rw[h2];exact hs.f.kept ho (by simpa using q2.symm) hM⟩
theorem QSrAt.more {M M':List Nat} {w:World} {p:Nat × Nat × Nat} {s:Sr} (h:QSrAt M w p s) (hM:∀ x∈M',x∈M∨w.heap.size≤x):QSrAt M' w p s:=⟨h.b,h.a,h.f.more hM⟩
theorem QClAt.putF {M:List Nat} {w w':World} {P:Pl} {c:Cl} {b k:Nat} {s':Sr} (h:QClAt M w P c) (hk:k<P.ps.length) (ho:Only [P.ps[k].1] w w') (hn:w.heap.size≤b) (hb:QSrB w' P.ps[k].1 P.ps[k].2.1 b s') (h1:s'.sa=(c.srcs[k]'(h.len ▸ hk)).sa) (hf:∀ M,QFlAt M w' b s'.fl):QClAt (b::M) w' (P.newF k b hk) { c with srcs:=c.srcs.set k s' }:=by
 have hkc:k<c.srcs.length:=h.len ▸ hk;obtain⟨n1,n2,n3,n4,n5,n6,n7⟩:=pl_ndQ h.nd;have hpk:=n7 _ (List.getElem_mem hk) P.ps[k].1 (by simp);have hbl:b ∉ P.all:=fun hm=>by have:=h.lt b hm;omega
 have hnd:=h.nd;have hs:=h.src k hk hkc;obtain⟨-,hq,-,-⟩:=pl_at h.nd hk (pb:=P.ps[k].1) (pa:=P.ps[k].2.1) (pf:=P.ps[k].2.2) rfl;have hM:∀ x∈b::M,x∈M∨w.heap.size≤x:=fun x hx=>(List.mem_cons.1 hx).elim (fun e=>.inr (e ▸ hn)) .inl;have hS:∀ x∈[P.ps[k].1],x∈b::M∨w.heap.size≤x:=fun x hx=>.inl (List.mem_cons_of_mem _ (h.sub x (ps_all hk x (by rw[List.mem_singleton.1 hx];simp))));have hbs:=(hf []).lt;refine⟨by have:=ho.got h.cl (by simpa using hpk.1);unfold QClB;simp only[Pl.newF,List.length_set];exact this,ho.got (b:=P.bk) h.ck (by simpa using hpk.2.1),ho.got (b:=P.bv) h.sv (by simpa using hpk.2.2.1),?_,by simpa [Pl.newF] using h.len,fun j i1 i2=>?_,?_,fun x hx=>?_,fun x hx=>?_,fun x hx=>?_⟩
 ·unfold Pl.newF
  dsimp only;rw[map_set1 hk];exact h.row.kept ho (by simpa using hpk.2.2.2)
 ·have i1':j<P.ps.length:=by simpa [Pl.newF] using i1
  have i2':j<c.srcs.length:=by simpa using i2
  by_cases e:k=j
  ·subst e
   simp only[Pl.newF,List.getElem_set_self];exact⟨hb,by rw[h1];exact hs.a.kept ho (by simpa using Ne.symm hq),hf _⟩
  ·simp only[Pl.newF,List.getElem_set_ne e]
   unfold Pl.all at hnd;simp only[List.nodup_cons] at hnd;have ap:∀ x∈[P.ps[j].1,P.ps[j].2.1,P.ps[j].2.2],x ∉ [P.ps[k].1]:=fun x hx hm=>flat_apart (f:=fun p:Nat × Nat × Nat=>[p.1,p.2.1,p.2.2]) i1' hk hnd.2.2.2.2 (Ne.symm e) x hx (by rw[List.mem_singleton.1 hm];simp);exact ((h.src j i1' i2').more hM).kept ho (ap _ (by simp)) (ap _ (by simp)) (ap _ (by simp)) hS
 ·unfold Pl.all Pl.newF at *
  dsimp only at *;rw[show (fun p:Nat × Nat × Nat=>[p.1,p.2.1,p.2.2])=tri3 from rfl] at *;rw[flat_split hk] at hnd hbl;rw[flat_set3 hk];exact nodup_swap (A:=P.bc::P.bk::P.bv::P.g::(P.ps.take k).flatMap tri3) (b:=b) hnd hbl
 ·rcases newF_all hk x hx with hx|rfl
  ·exact Nat.lt_of_lt_of_le (h.lt x hx) ho.size
  ·exact hbs
 ·rcases newF_all hk x hx with hx|rfl
  ·exact List.mem_cons_of_mem _ (h.sub x hx)
  ·exact List.mem_cons_self ..
 ·rcases List.mem_cons.1 hx with rfl|hx
  ·exact hbs
  ·exact Nat.lt_of_lt_of_le (h.ml x hx) ho.size
end
end Go.Proofs.YtedgpfgccpnjnaaGreat
