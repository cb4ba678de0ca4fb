/- netsim: what a node answers. Conditions: those named in each theorem. -/
import Derived.Test.YthbgcpfklmlnjaaGreatFO2
import Derived.Test.YthbgcpfklmlnjaaGreatFO0
namespace Go.Proofs.YthbgcpfklmlnjaaGreat
set_option linter.all false
open List (getElem?_eq_getElem map_cons map_nil mem_cons not_mem_nil)
open IntKind (wrap_i64 wrap_u32)
open Go.Lib (hid)
set_option maxRecDepth 100000
set_option maxHeartbeats 8000000
open Go.RowKit Go.Sort
theorem aT.cell {w0 w:World} {own:Col} {s:dU} {p:j5} {st:bS} (h:aT w0 w own s p st) {i:Nat} (hi:i<s.nd.length) {w':World} (o:Only [] w w'):p.ca<w'.heap.size/\w'.cell? ⟨p.ca,i,none⟩=some (.pointer (((p.pl.getD i none).map Pl.bc).map fun b=>⟨b,0,none⟩)):=by
 have hl:i<p.pl.length:=by rw[h.aa.2.1];exact hi
 have hr:=h.aa.2.2.kept o (by simp);refine⟨hr.lt,?_⟩;have:=hr.cell OM (i:=i) (j:=0) (x:=(p.pl.getD i none).map Pl.bc) (by rw[List.getElem?_map,getElem?_eq_getElem hl,List.getD_eq_getElem?_getD,getElem?_eq_getElem hl];rfl) (by decide);rw[show i*1+0=i by omega] at this;rw[this];rfl
theorem aT.cl_none {w0 w:World} {own:Col} {s:dU} {p:j5} {st:bS} (h:aT w0 w own s p st) {i:Nat} (hc:gQ st i=none):p.pl.getD i none=none:=by
 unfold gQ at hc;rw[Int.toNat_natCast,List.getD_eq_getElem?_getD] at hc;rw[List.getD_eq_getElem?_getD];by_cases hi:i<p.pl.length
 ·have hj:i<st.cl.length:=h.ca.1 ▸ hi
  have:=h.ca.2 i hi hj;rw[getElem?_eq_getElem hj] at hc;rw[getElem?_eq_getElem hi];simp only[Option.getD_some] at hc |-;rw[hc] at this;revert this
  cases p.pl[i] with
  | none=>exact fun _=>rfl
  | some P=>exact fun h=>h.elim
 ·rw[List.getElem?_eq_none (by omega)];rfl
theorem aT.G6 {w0 w:World} {own:Col} {s:dU} {p:j5} {st:bS} (h:aT w0 w own s p st) {i:Nat} {c:Cl} (hc:gQ st i=some c):∃ P,p.pl.getD i none=some P/\p.pl[i]? = some (some P)/\st.cl[i]? = some (some c)/\bP w P c/\∀ b∈P.all,own b=some (.C i):=by
 have hs:=rM.1 hc;obtain⟨hj,he⟩:=List.getElem?_eq_some_iff.1 hs;have hi:i<p.pl.length:=h.ca.1 ▸ hj;have:=h.ca.2 i hi hj;rw[he] at this;revert this
 cases hq:p.pl[i] with
 | none=>exact fun h=>h.elim
 | some P=>exact fun h=>⟨P,by rw[List.getD_eq_getElem?_getD,getElem?_eq_getElem hi,hq];rfl,by rw[getElem?_eq_getElem hi,hq],hs,h⟩
section
variable {P:Program} {w0 w:World} {S:List Nat} {L:List gJ}
theorem wL {ops:Array Oper} {l:List Oper} {Q:Exit->Act->World->Prop} {a:Act} [NQ w] [h:Mm w0 S w L] (k:∀ w',Mm w0 S w' L->Facts w' L->wpList P ops Q l a w'):wpList P ops Q l a w:=k _ h h.out.k
end
theorem zA (a d:Int) (h0: -2000000000000000<=a/\a<=2000000000000000) (h1: -2000000000000000<=d/\d<=2000000000000000) (w:World) :
  Calls Tryz.prog 14 #[.int .i64 a,.int .i64 d] w fun e w'=>e=.returned (dS ⟨a-d,a+d⟩)/\Only [] w w':=by
 unfold dS;dsimp only;have e1:IntKind.i64.wrap (a-d)=a-d:=by rw[wrap_i64];omega
 have e2:IntKind.i64.wrap (a+d)=a+d:=by rw[wrap_i64];omega
 have m:=dD w [];have k:=m.out.k;go_enter Tryz.func14,Tryz.ntmps14
 go_wp2_with (first|((with_reducible refine wU ?_);clear k m;intro w m k)|((with_reducible refine lE (fun w o g k K hK=>⟨rfl,?_⟩));simp[results,Tryz.results14,go_sem,k];refine hK _ ?_;exact⟨rfl,o⟩))
theorem X4 {w0 w:World} {own:Col} {s:dU} {p:j5} {st:bS} (h:aT w0 w own s p st) (hs:eO w s) {i:Nat} (hi:i<s.nd.length) (z:Np) (t:Int) (t0:0<=t) (t1:t<=1125899906842624) (hrf:(s.nd.getD i aU).n.rf=true) :
  Calls Tryz.prog 133 #[.pointer (some ⟨p.bw,0,none⟩),.int .i64 i,iL z,.int .i64 t] w fun e w'=>e=.returned (.tuple #[iL (fA s.sc st i z t).1,dS (fA s.sc st i z t).2.1,.bool (fA s.sc st i z t).2.2])/\Only [] w w':=by
 obtain⟨a1,a2,a3,HANS⟩:∃ a1 a2 a3,Hid (fA s.sc st i z t=(a1,a2,a3)):=⟨_,_,_,hid rfl⟩;rw[HANS.out];dsimp only;have hA:=HANS.out;clear HANS;unfold fA at hA;rw[eB] at hA;have hnw:=hs.ok.ndo _ (bC aU hi);have ho:=hs.osc _ (bC aU hi);have her:=hs.er _ (bC aU hi);have hnl:=hs.nl;have HV:=hid hs.ok.nd;have hl:=hs.ok.ln;obtain⟨bk,off,hpn,-⟩:=HV.out.nd (Only.refl [] w) hi
 have HX:=hid (show ∀ w',Only [] w w'->bk<w'.heap.size/\w'.cell? ⟨bk,off+i*7,none⟩=some (.int .i64 (s.nd.getD i aU).n.ph)/\w'.cell? ⟨bk,off+i*7+1,none⟩=some (.slice (s.nd.getD i aU).ps (s.nd.getD i aU).n.sg.length (s.nd.getD i aU).cs)/\w'.cell? ⟨bk,off+i*7+2,none⟩=some (.int .i64 (s.nd.getD i aU).n.tol)/\w'.cell? ⟨bk,off+i*7+3,none⟩=some (.bool (s.nd.getD i aU).n.rf)/\w'.cell? ⟨bk,off+i*7+4,none⟩=some (.int .i64 (s.nd.getD i aU).n.er)/\w'.cell? ⟨bk,off+i*7+5,none⟩=some (.int .i64 (s.nd.getD i aU).n.st)/\w'.cell? ⟨bk,off+i*7+6,none⟩=some (.slice (s.nd.getD i aU).pv (s.nd.getD i aU).n.sv.length (s.nd.getD i aU).cv)/\p.ca<w'.heap.size/\w'.cell? ⟨p.ca,i,none⟩=some (.pointer (((p.pl.getD i none).map Pl.bc).map fun b=>⟨b,0,none⟩)) from fun w' o=>by
  obtain⟨b',o',e,c1,c2,c3,c4,c5,c6,c7,c8⟩:=HV.out.nd o hi;rw[hpn] at e
  cases e
  exact⟨c1,c2,c3,c4,c5,c6,c7,c8,h.cell hi o⟩)
 have hbw:=h.wa.2;rw[hpn] at hbw;have hi2:(i:Int)<(s.nd.length:Int):=by omega
 have hsl:=hi;have HP:=hid (fun w'=>A8 (s.nd.getD i aU).n.er (i+1) w');have HAR:=hid (fun w'=>zA t (s.nd.getD i aU).n.er (by omega) (by omega) w');have HR:=hid (fun w' (o:Only [] w w')=>pRaw (h.wa.kept o (by simp)) (hs.ok.kept o) hi ho t t0 t1);have HST:=hid (fun w'=>nE (3900000000000000000+t) (by omega) (by omega) w');have e1:IntKind.i64.wrap (3900000000000000000+t)=3900000000000000000+t:=by rw[wrap_i64];omega
 have e2:IntKind.i64.wrap ((i:Int)+1)=(i:Int)+1:=by rw[wrap_i64];omega
 have e3:IntKind.u32.wrap ((i:Int)+1)=(i:Int)+1:=by rw[wrap_u32];omega
 have HRP:=hid (fun w'=>WY z (lU (3900000000000000000+t)) (AU (s.nd.getD i aU).n.er (i+1)).1 w');rw[if_pos hrf] at hA;rw[hrf] at HX;clear h hs hnw ho HV hpn hnl;generalize (s.nd.getD i aU).n.er=er at *;generalize (s.nd.getD i aU).n=nd at *;generalize AU er (i+1)=pr at *;obtain⟨⟨r1,r2,r3,r4⟩,pe⟩:=pr;generalize lU (3900000000000000000+t)=tm at *;dsimp only at *;generalize xY z tm ⟨r1,r2,r3,r4⟩=rp at *;obtain⟨⟨x1,x2,x3,x4,x5,x6,x7,x8,x9,xa,xb,xc,xd⟩,re⟩:=rp;obtain⟨z1,z2,z3,z4,z5,z6,z7,z8,z9,za,zb,zc,zd⟩:=z;have dre:(re == 0)=decide (re=0):=by rw[Bool.eq_iff_iff];simp
 unfold iL dS IU at *;unfold yC at hA;dsimp only at *;obtain⟨wo,hwo⟩:∃ wo:World,wo=w:=⟨_,rfl⟩;subst hwo;have m:=mY hbw;have k:=m.out.k;have c:=HX.out _ (Only.refl [] wo);clear hbw;by_cases hpe:pe=0
 focus (subst hpe;rw[if_pos rfl] at hA)
 rotate_left
 focus (rw[if_neg hpe] at hA;have dpe:(pe != 0)=true:=by simpa using hpe)
 rotate_left
 all_goals
  cases hA
  go_enter Tryz.func133,Tryz.ntmps133
  go_wp2_with (first|((with_reducible first|refine cM (HR.out _ gO) ?_|refine cM (HP.out _) ?_|refine cM (HAR.out _) ?_|refine cM (HST.out _) ?_|refine cM (HRP.out _) ?_|refine cU ?_|refine wU ?_);clear k m c;intro w m k;have c:=HX.out w m.out.only)|((with_reducible refine rX (id:=21) [2,3] [0,1,4,5] 5 (by kernel_rfl) (by kernel_rfl) ?_);simp only[pick,map_cons,map_nil,List.getD_cons_succ,List.getD_cons_zero];(repeat (refine aJ (fun K hK=>?_);go_simp;refine hK _ ?_;clear hK K));refine aN ?_;clear k m c;intro w m k;have c:=HX.out w m.out.only;((iterate 5 all_goals ((first|refine xN [0,1] (by decide +kernel) ?_|refine xN [1,4] (by decide +kernel) ?_|refine xN [4] (by decide +kernel) ?_|refine xN [5] (by decide +kernel) ?_|refine xN [6] (by decide +kernel) ?_|refine xN [1] (by decide +kernel) ?_|refine xN [0] (by decide +kernel) ?_);simp only[mem_cons,not_mem_nil,or_false,forall_eq_or_imp,forall_eq];(repeat' with_reducible refine And.intro ?_ ?_);all_goals (refine aC rfl ?_;go_wp2;simp only[bG];refine⟨aQ (by kernel_rfl),tW ?_⟩;clear k m c;intro w m k;have c:=HX.out w m.out.only)));all_goals unfold RD))|((with_reducible refine wL ?_);clear k m c;intro w m k;have c:=HX.out w m.out.only))
  all_goals ((try simp only[List.set] at m k);refine lE (fun w o g k K hK=>⟨rfl,?_⟩);simp[results,Tryz.results133,go_sem,k];refine hK _ ?_;clear hK K k;first|exact⟨rfl,o⟩|exact⟨by rw[dre],o⟩)
theorem X5 {w0 w:World} {own:Col} {s:dU} {p:j5} {st:bS} (h:aT w0 w own s p st) (hs:eO w s) {i:Nat} (hi:i<s.nd.length) (z:Np) (t:Int) (t0:0<=t) (t1:t<=1125899906842624) (hrf:(s.nd.getD i aU).n.rf=false) (hcl:gQ st i=none) :
  Calls Tryz.prog 133 #[.pointer (some ⟨p.bw,0,none⟩),.int .i64 i,iL z,.int .i64 t] w fun e w'=>e=.returned (.tuple #[iL (fA s.sc st i z t).1,dS (fA s.sc st i z t).2.1,.bool (fA s.sc st i z t).2.2])/\Only [] w w':=by
 obtain⟨a1,a2,a3,HANS⟩:∃ a1 a2 a3,Hid (fA s.sc st i z t=(a1,a2,a3)):=⟨_,_,_,hid rfl⟩;rw[HANS.out];dsimp only;have hA:=HANS.out;clear HANS;unfold fA at hA;rw[eB] at hA;have hnw:=hs.ok.ndo _ (bC aU hi);have ho:=hs.osc _ (bC aU hi);have her:=hs.er _ (bC aU hi);have hnl:=hs.nl;have HV:=hid hs.ok.nd;have hl:=hs.ok.ln;obtain⟨bk,off,hpn,-⟩:=HV.out.nd (Only.refl [] w) hi
 have HX:=hid (show ∀ w',Only [] w w'->bk<w'.heap.size/\w'.cell? ⟨bk,off+i*7,none⟩=some (.int .i64 (s.nd.getD i aU).n.ph)/\w'.cell? ⟨bk,off+i*7+1,none⟩=some (.slice (s.nd.getD i aU).ps (s.nd.getD i aU).n.sg.length (s.nd.getD i aU).cs)/\w'.cell? ⟨bk,off+i*7+2,none⟩=some (.int .i64 (s.nd.getD i aU).n.tol)/\w'.cell? ⟨bk,off+i*7+3,none⟩=some (.bool (s.nd.getD i aU).n.rf)/\w'.cell? ⟨bk,off+i*7+4,none⟩=some (.int .i64 (s.nd.getD i aU).n.er)/\w'.cell? ⟨bk,off+i*7+5,none⟩=some (.int .i64 (s.nd.getD i aU).n.st)/\w'.cell? ⟨bk,off+i*7+6,none⟩=some (.slice (s.nd.getD i aU).pv (s.nd.getD i aU).n.sv.length (s.nd.getD i aU).cv)/\p.ca<w'.heap.size/\w'.cell? ⟨p.ca,i,none⟩=some (.pointer (((p.pl.getD i none).map Pl.bc).map fun b=>⟨b,0,none⟩)) from fun w' o=>by
  obtain⟨b',o',e,c1,c2,c3,c4,c5,c6,c7,c8⟩:=HV.out.nd o hi;rw[hpn] at e
  cases e
  exact⟨c1,c2,c3,c4,c5,c6,c7,c8,h.cell hi o⟩)
 have hbw:=h.wa.2;rw[hpn] at hbw;have hi2:(i:Int)<(s.nd.length:Int):=by omega
 have hsl:=hi;have HP:=hid (fun w'=>A8 (s.nd.getD i aU).n.er (i+1) w');have HAR:=hid (fun w'=>zA t (s.nd.getD i aU).n.er (by omega) (by omega) w');have HR:=hid (fun w' (o:Only [] w w')=>pRaw (h.wa.kept o (by simp)) (hs.ok.kept o) hi ho t t0 t1);have HST:=hid (fun w'=>nE (3900000000000000000+t) (by omega) (by omega) w');have e1:IntKind.i64.wrap (3900000000000000000+t)=3900000000000000000+t:=by rw[wrap_i64];omega
 have e2:IntKind.i64.wrap ((i:Int)+1)=(i:Int)+1:=by rw[wrap_i64];omega
 have e3:IntKind.u32.wrap ((i:Int)+1)=(i:Int)+1:=by rw[wrap_u32];omega
 have hcn:=HV;clear hcn;rw[if_neg (by rw[hrf];decide),hcl] at hA;rw[hrf,h.cl_none hcl] at HX;clear h hs hnw ho HV hpn hnl HP HAR HST;generalize (s.nd.getD i aU).n.er=er at *;generalize (s.nd.getD i aU).n=nd at *;obtain⟨z1,z2,z3,z4,z5,z6,z7,z8,z9,za,zb,zc,zd⟩:=z
 cases hA
 unfold iL dS yC at *;dsimp only at *;obtain⟨wo,hwo⟩:∃ wo:World,wo=w:=⟨_,rfl⟩;subst hwo;have m:=mY hbw;have k:=m.out.k;have c:=HX.out _ (Only.refl [] wo);clear hbw;go_enter Tryz.func133,Tryz.ntmps133
 go_wp2_with (first|((with_reducible first|refine cM (HR.out _ gO) ?_|refine cU ?_|refine wU ?_);clear k m c;intro w m k;have c:=HX.out w m.out.only)|((with_reducible refine rX (id:=21) [2,3] [0,1,4,5] 5 (by kernel_rfl) (by kernel_rfl) ?_);simp only[pick,map_cons,map_nil,List.getD_cons_succ,List.getD_cons_zero];(repeat (refine aJ (fun K hK=>?_);go_simp;refine hK _ ?_;clear hK K));refine aN ?_;clear k m c;intro w m k;have c:=HX.out w m.out.only;((iterate 5 all_goals ((first|refine xN [0,1] (by decide +kernel) ?_|refine xN [1,4] (by decide +kernel) ?_|refine xN [4] (by decide +kernel) ?_|refine xN [5] (by decide +kernel) ?_|refine xN [6] (by decide +kernel) ?_|refine xN [1] (by decide +kernel) ?_|refine xN [0] (by decide +kernel) ?_);simp only[mem_cons,not_mem_nil,or_false,forall_eq_or_imp,forall_eq];(repeat' with_reducible refine And.intro ?_ ?_);all_goals (refine aC rfl ?_;go_wp2;simp only[bG];refine⟨aQ (by kernel_rfl),tW ?_⟩;clear k m c;intro w m k;have c:=HX.out w m.out.only)));all_goals unfold RD))|((with_reducible refine wL ?_);clear k m c;intro w m k;have c:=HX.out w m.out.only))
 all_goals ((try simp only[List.set] at m k);refine lE (fun w o g k K hK=>⟨rfl,?_⟩);simp[results,Tryz.results133,go_sem,k];refine hK _ ?_;clear hK K k;first|exact⟨rfl,o⟩|exact⟨by rw[dre],o⟩)
theorem X6 {w0 w:World} {own:Col} {s:dU} {p:j5} {st:bS} (h:aT w0 w own s p st) (hs:eO w s) {i:Nat} (hi:i<s.nd.length) (z:Np) (t:Int) (t0:0<=t) (t1:t<=1125899906842624) (hrf:(s.nd.getD i aU).n.rf=false) {c:Cl} (hcl:gQ st i=some c) (hv:xP c) :
  Calls Tryz.prog 133 #[.pointer (some ⟨p.bw,0,none⟩),.int .i64 i,iL z,.int .i64 t] w fun e w'=>e=.returned (.tuple #[iL (fA s.sc st i z t).1,dS (fA s.sc st i z t).2.1,.bool (fA s.sc st i z t).2.2])/\Only [] w w':=by
 obtain⟨a1,a2,a3,HANS⟩:∃ a1 a2 a3,Hid (fA s.sc st i z t=(a1,a2,a3)):=⟨_,_,_,hid rfl⟩;rw[HANS.out];dsimp only;have hA:=HANS.out;clear HANS;unfold fA at hA;rw[eB] at hA;have hnw:=hs.ok.ndo _ (bC aU hi);have ho:=hs.osc _ (bC aU hi);have her:=hs.er _ (bC aU hi);have hnl:=hs.nl;have HV:=hid hs.ok.nd;have hl:=hs.ok.ln;obtain⟨bk,off,hpn,-⟩:=HV.out.nd (Only.refl [] w) hi
 have HX:=hid (show ∀ w',Only [] w w'->bk<w'.heap.size/\w'.cell? ⟨bk,off+i*7,none⟩=some (.int .i64 (s.nd.getD i aU).n.ph)/\w'.cell? ⟨bk,off+i*7+1,none⟩=some (.slice (s.nd.getD i aU).ps (s.nd.getD i aU).n.sg.length (s.nd.getD i aU).cs)/\w'.cell? ⟨bk,off+i*7+2,none⟩=some (.int .i64 (s.nd.getD i aU).n.tol)/\w'.cell? ⟨bk,off+i*7+3,none⟩=some (.bool (s.nd.getD i aU).n.rf)/\w'.cell? ⟨bk,off+i*7+4,none⟩=some (.int .i64 (s.nd.getD i aU).n.er)/\w'.cell? ⟨bk,off+i*7+5,none⟩=some (.int .i64 (s.nd.getD i aU).n.st)/\w'.cell? ⟨bk,off+i*7+6,none⟩=some (.slice (s.nd.getD i aU).pv (s.nd.getD i aU).n.sv.length (s.nd.getD i aU).cv)/\p.ca<w'.heap.size/\w'.cell? ⟨p.ca,i,none⟩=some (.pointer (((p.pl.getD i none).map Pl.bc).map fun b=>⟨b,0,none⟩)) from fun w' o=>by
  obtain⟨b',o',e,c1,c2,c3,c4,c5,c6,c7,c8⟩:=HV.out.nd o hi;rw[hpn] at e
  cases e
  exact⟨c1,c2,c3,c4,c5,c6,c7,c8,h.cell hi o⟩)
 have hbw:=h.wa.2;rw[hpn] at hbw;have hi2:(i:Int)<(s.nd.length:Int):=by omega
 have hsl:=hi;have HP:=hid (fun w'=>A8 (s.nd.getD i aU).n.er (i+1) w');have HAR:=hid (fun w'=>zA t (s.nd.getD i aU).n.er (by omega) (by omega) w');have HR:=hid (fun w' (o:Only [] w w')=>pRaw (h.wa.kept o (by simp)) (hs.ok.kept o) hi ho t t0 t1);have HST:=hid (fun w'=>nE (3900000000000000000+t) (by omega) (by omega) w');have e1:IntKind.i64.wrap (3900000000000000000+t)=3900000000000000000+t:=by rw[wrap_i64];omega
 have e2:IntKind.i64.wrap ((i:Int)+1)=(i:Int)+1:=by rw[wrap_i64];omega
 have e3:IntKind.u32.wrap ((i:Int)+1)=(i:Int)+1:=by rw[wrap_u32];omega
 obtain⟨P,hP,-,-,hat,-⟩:=h.G6 hcl;have hob:=GD ho t0 t1;rw[if_neg (by rw[hrf];decide),hcl] at hA;rw[hrf,hP] at HX;have hraw:bO s.sc i t=qK (s.nd.getD i aU).n.ph (s.nd.getD i aU).n.sg t:=by unfold bO;rw[eB]
 rw[<-hraw] at hob;clear hraw;dsimp only[Option.map_some] at HX;dsimp only at hA;generalize bO s.sc i t=raw at *;have HN:=hid (fun w' (o:Only [] w w')=>BF (hat.kept o) hv.u.ok.ck raw (by omega) (by omega));have HI:=hid (fun w' (o:Only [] w w')=>EW (hat.kept o) hv.u.ok raw (by omega) (by omega));have HRT:=hid (fun w' (o:Only [] w w')=>pClRoot (hat.kept o));have hnb:=CJ (c:=c) (raw:=raw);have HST:=hid (fun (h0:(aY c raw).2=0) w'=>nE (3900000000000000000+(aY c raw).1) (by have:=hnb h0;omega) (by have:=hnb h0;omega) w');have HRP:=hid (fun w'=>WY z (lU (3900000000000000000+(aY c raw).1)) c.rt w');have e9:(aY c raw).2=0->IntKind.i64.wrap (3900000000000000000+(aY c raw).1)=3900000000000000000+(aY c raw).1:=fun h0=>by have:=hnb h0;rw[wrap_i64];omega
 clear h hs hnw ho HV hpn hnl HP HAR hat hob hP hnb;generalize (s.nd.getD i aU).n.er=er at *;generalize (s.nd.getD i aU).n=nd at *;generalize aY c raw=cn at *;generalize nN c raw=ci at *;obtain⟨x,e⟩:=cn;obtain⟨⟨v1,v2⟩,ie⟩:=ci;generalize c.rt=rt at *;obtain⟨r1,r2,r3,r4⟩:=rt;dsimp only at *;generalize lU (3900000000000000000+x)=tm at *;generalize xY z tm ⟨r1,r2,r3,r4⟩=rp at *;obtain⟨⟨x1,x2,x3,x4,x5,x6,x7,x8,x9,xa,xb,xc,xd⟩,re⟩:=rp;obtain⟨z1,z2,z3,z4,z5,z6,z7,z8,z9,za,zb,zc,zd⟩:=z;have dre:(re == 0)=decide (re=0):=by rw[Bool.eq_iff_iff];simp
 unfold iL dS at *;unfold IU at HRP;unfold yC at hA;dsimp only at *;by_cases h0:e=0
 focus (subst h0;have HS2:=hid (HST.out rfl);have e10:=e9 rfl;clear HST e9;by_cases h1:ie=0)
 focus (subst h1;rw[if_pos ⟨rfl,rfl⟩] at hA)
 rotate_left
 focus (rw[if_neg (fun h=>h1 h.2)] at hA;have dpe:(ie != 0)=true:=by simpa using h1)
 rotate_left
 focus (rw[if_neg (fun h=>h0 h.1)] at hA;have dpe:(e != 0)=true:=(by simpa using h0);have dpe2:(e == 0)=false:=(by simpa using h0))
 rotate_left
 all_goals
  cases hA
  obtain⟨wo,hwo⟩:∃ wo:World,wo=w:=⟨_,rfl⟩;subst hwo;have m:=mY hbw;have k:=m.out.k;have c:=HX.out _ (Only.refl [] wo);clear hbw;go_enter Tryz.func133,Tryz.ntmps133
  go_wp2_with (first|((with_reducible first|refine cM (HR.out _ gO) ?_|refine cM (HN.out _ gO) ?_|refine cM (HI.out _ gO) ?_|refine cM (HRT.out _ gO) ?_|refine cM (HS2.out _) ?_|refine cM (HRP.out _) ?_|refine cU ?_|refine wU ?_);clear k m c;intro w m k;have c:=HX.out w m.out.only)|((with_reducible refine rX (id:=21) [2,3] [0,1,4,5] 5 (by kernel_rfl) (by kernel_rfl) ?_);simp only[pick,map_cons,map_nil,List.getD_cons_succ,List.getD_cons_zero];(repeat (refine aJ (fun K hK=>?_);go_simp;refine hK _ ?_;clear hK K));refine aN ?_;clear k m c;intro w m k;have c:=HX.out w m.out.only;((iterate 5 all_goals ((first|refine xN [0,1] (by decide +kernel) ?_|refine xN [1,4] (by decide +kernel) ?_|refine xN [4] (by decide +kernel) ?_|refine xN [5] (by decide +kernel) ?_|refine xN [6] (by decide +kernel) ?_|refine xN [1] (by decide +kernel) ?_|refine xN [0] (by decide +kernel) ?_);simp only[mem_cons,not_mem_nil,or_false,forall_eq_or_imp,forall_eq];(repeat' with_reducible refine And.intro ?_ ?_);all_goals (refine aC rfl ?_;go_wp2;simp only[bG];refine⟨aQ (by kernel_rfl),tW ?_⟩;clear k m c;intro w m k;have c:=HX.out w m.out.only)));all_goals unfold RD))|((with_reducible refine wL ?_);clear k m c;intro w m k;have c:=HX.out w m.out.only))
  all_goals ((try simp only[List.set] at m k);refine lE (fun w o g k K hK=>⟨rfl,?_⟩);simp[results,Tryz.results133,go_sem,k];refine hK _ ?_;clear hK K k;first|exact⟨rfl,o⟩|exact⟨by rw[dre],o⟩)
end Go.Proofs.YthbgcpfklmlnjaaGreat
