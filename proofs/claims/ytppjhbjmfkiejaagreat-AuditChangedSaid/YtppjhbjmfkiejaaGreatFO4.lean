/- netsim: what a node answers. Conditions: those named in each theorem. -/
import Derived.Test.YtppjhbjmfkiejaaGreatFO2
import Derived.Test.YtppjhbjmfkiejaaGreatFNw
namespace Go.Proofs.YtppjhbjmfkiejaaGreat
set_option linter.all false
open IntKind (wrap_i64 wrap_u32)
open IntKind (wrap)
set_option maxRecDepth 100000
set_option maxHeartbeats 8000000
open Go.RowKit Go.Sort
theorem aX.cell {w0 w:World} {own:Col} {s:dW} {p:kI} {st:bT} (h:aX w0 w own s p st) {i:Nat} (hi:i<s.nd.length) {w':World} (o:Oy [] w w'):p.ca<w'.heap.size/\w'.cell? ⟨p.ca,i,none⟩=some (.pointer (((p.pl.getD i none).map Pl.bc).map fun b=>⟨b,0,none⟩)):=by
 have hl:i<p.pl.length:=by rw[h.aa.2.1];exact hi
 have hr:=h.aa.2.2.kept o (by simp);refine⟨hr.lt,?_⟩;have:=hr.cell QC (i:=i) (j:=0) (x:=(p.pl.getD i none).map Pl.bc) (by rw[List.getElem?_map,List.getElem?_eq_getElem hl,List.getD_eq_getElem?_getD,List.getElem?_eq_getElem hl];rfl) (by decide);rw[show i*1+0=i by omega] at this;rw[this];rfl
theorem aX.cl_none {w0 w:World} {own:Col} {s:dW} {p:kI} {st:bT} (h:aX w0 w own s p st) {i:Nat} (hc:gW st i=none):p.pl.getD i none=none:=by
 unfold gW at hc;rw[Int.toNat_natCast,List.getD_eq_getElem?_getD] at hc;rw[List.getD_eq_getElem?_getD];by_cases hi:i<p.pl.length
 ·have hj:i<st.cl.length:=h.ca.1 ▸ hi
  have:=h.ca.2 i hi hj;rw[List.getElem?_eq_getElem hj] at hc;rw[List.getElem?_eq_getElem hi];simp only[Option.getD_some] at hc |-;rw[hc] at this;revert this
  cases p.pl[i] with
  | none=>exact fun _=>rfl
  | some P=>exact fun h=>h.elim
 ·rw[List.getElem?_eq_none (by omega)];rfl
theorem aX.I7 {w0 w:World} {own:Col} {s:dW} {p:kI} {st:bT} (h:aX w0 w own s p st) {i:Nat} {c:Cl} (hc:gW st i=some c):∃ P,p.pl.getD i none=some P/\p.pl[i]? = some (some P)/\st.cl[i]? = some (some c)/\bP w P c/\∀ b∈P.all,own b=some (.C i):=by
 have hs:=sK.1 hc;obtain⟨hj,he⟩:=List.getElem?_eq_some_iff.1 hs;have hi:i<p.pl.length:=h.ca.1 ▸ hj;have:=h.ca.2 i hi hj;rw[he] at this;revert this
 cases hq:p.pl[i] with
 | none=>exact fun h=>h.elim
 | some P=>exact fun h=>⟨P,by rw[List.getD_eq_getElem?_getD,List.getElem?_eq_getElem hi,hq];rfl,by rw[List.getElem?_eq_getElem hi,hq],hs,h⟩
section
variable {P:Program} {w0 w:World} {S:List Nat} {L:List gG}
theorem wL {ops:Array Oper} {l:List Oper} {Q:Exit->Act->World->Prop} {a:Act} [PS w] [h:Mm w0 S w L] (k:∀ w',Mm w0 S w' L->Facts w' L->wpList P ops Q l a w'):wpList P ops Q l a w:=k _ h h.out.k
end
theorem H9 (a d:Int) (h0: -2000000000000000<=a/\a<=2000000000000000) (h1: -2000000000000000<=d/\d<=2000000000000000) (w:World) :
  Calls Tryz.prog 174 #[.int .i64 a,.int .i64 d] w fun e w'=>e=.returned (dV ⟨a-d,a+d⟩)/\Oy [] w w':=by
 unfold dV;dsimp only;have e1:wrap .i64 (a-d)=a-d:=by rw[wrap_i64];omega
 have e2:wrap .i64 (a+d)=a+d:=by rw[wrap_i64];omega
 have m:=bJ w [];have k:=m.zK;go_enter Tryz.func174,Tryz.ntmps174
 go_wp2_with (first|((with_reducible refine wU ?_);clear k m;intro w m k)|((with_reducible refine lE (fun w o g k K hK=>⟨rfl,?_⟩));simp[results,Tryz.results174,go_sem,k];refine hK _ ?_;exact⟨rfl,o⟩))
theorem ZH {w0 w:World} {own:Col} {s:dW} {p:kI} {st:bT} (h:aX w0 w own s p st) (hs:fK w s) {i:Nat} (hi:i<s.nd.length) (z:Np) (t:Int) (t0:0<=t) (t1:t<=1125899906842624) (hrf:(s.nd.getD i bD).n.rf=true) :
  Calls Tryz.prog 172 #[.pointer (some ⟨p.bw,0,none⟩),.int .i64 i,iR z,.int .i64 t] w fun e w'=>e=.returned (.tuple #[iR (fG s.sc st i z t).1,dV (fG s.sc st i z t).2.1,.bool (fG s.sc st i z t).2.2])/\Oy [] w w':=by
 obtain⟨a1,a2,a3,HANS⟩:∃ a1 a2 a3,Hid (fG s.sc st i z t=(a1,a2,a3)):=⟨_,_,_,aA rfl⟩;rw[HANS.out];dsimp only;have hA:=HANS.out;clear HANS;unfold fG at hA;rw[fH] at hA;have hnw:=hs.ok.ndo _ (bS bD hi);have ho:=hs.osc _ (bS bD hi);have her:=hs.er _ (bS bD hi);have hnl:=hs.nl;have HV:=aA hs.ok.nd;have hl:=hs.ok.ln;obtain⟨bk,off,hpn,-⟩:=HV.out.nd (aR [] w) hi
 have HX:=aA (show ∀ w',Oy [] w w'->bk<w'.heap.size/\w'.cell? ⟨bk,off+i*7,none⟩=some (.int .i64 (s.nd.getD i bD).n.ph)/\w'.cell? ⟨bk,off+i*7+1,none⟩=some (.slice (s.nd.getD i bD).ps (s.nd.getD i bD).n.sg.length (s.nd.getD i bD).cs)/\w'.cell? ⟨bk,off+i*7+2,none⟩=some (.int .i64 (s.nd.getD i bD).n.tol)/\w'.cell? ⟨bk,off+i*7+3,none⟩=some (.bool (s.nd.getD i bD).n.rf)/\w'.cell? ⟨bk,off+i*7+4,none⟩=some (.int .i64 (s.nd.getD i bD).n.er)/\w'.cell? ⟨bk,off+i*7+5,none⟩=some (.int .i64 (s.nd.getD i bD).n.st)/\w'.cell? ⟨bk,off+i*7+6,none⟩=some (.slice (s.nd.getD i bD).pv (s.nd.getD i bD).n.sv.length (s.nd.getD i bD).cv)/\p.ca<w'.heap.size/\w'.cell? ⟨p.ca,i,none⟩=some (.pointer (((p.pl.getD i none).map Pl.bc).map fun b=>⟨b,0,none⟩)) from fun w' o=>by
  obtain⟨b',o',e,c1,c2,c3,c4,c5,c6,c7,c8⟩:=HV.out.nd o hi;rw[hpn] at e
  cases e
  exact⟨c1,c2,c3,c4,c5,c6,c7,c8,h.cell hi o⟩)
 have hbw:=h.wa.2;rw[hpn] at hbw;have hi2:(i:Int)<(s.nd.length:Int):=by omega
 have hsl:=hi;have HP:=aA (fun w'=>BS (s.nd.getD i bD).n.er (i+1) w');have HAR:=aA (fun w'=>H9 t (s.nd.getD i bD).n.er (by omega) (by omega) w');have HR:=aA (fun w' (o:Oy [] w w')=>pRaw (h.wa.kept o (by simp)) (hs.ok.kept o) hi ho t t0 t1);have HST:=aA (fun w'=>nM (3900000000000000000+t) (by omega) (by omega) w');have e1:wrap .i64 (3900000000000000000+t)=3900000000000000000+t:=by rw[wrap_i64];omega
 have e2:wrap .i64 ((i:Int)+1)=(i:Int)+1:=by rw[wrap_i64];omega
 have e3:wrap .u32 ((i:Int)+1)=(i:Int)+1:=by rw[wrap_u32];omega
 have HRP:=aA (fun w'=>YJ z (mF (3900000000000000000+t)) (BN (s.nd.getD i bD).n.er (i+1)).1 w');rw[if_pos hrf] at hA;rw[hrf] at HX;clear h hs hnw ho HV hpn hnl;generalize (s.nd.getD i bD).n.er=er at *;generalize (s.nd.getD i bD).n=nd at *;generalize BN er (i+1)=pr at *;obtain⟨⟨r1,r2,r3,r4⟩,pe⟩:=pr;generalize mF (3900000000000000000+t)=tm at *;dsimp only at *;generalize yY z tm ⟨r1,r2,r3,r4⟩=rp at *;obtain⟨⟨x1,x2,x3,x4,x5,x6,x7,x8,x9,xa,xb,xc,xd⟩,re⟩:=rp;obtain⟨z1,z2,z3,z4,z5,z6,z7,z8,z9,za,zb,zc,zd⟩:=z;have dre:(re == 0)=decide (re=0):=by rw[Bool.eq_iff_iff];simp
 unfold iR dV JK at *;unfold zA at hA;dsimp only at *;obtain⟨wo,rfl⟩:∃ wo:World,wo=w:=⟨_,rfl⟩;have m:=iX hbw;have k:=m.zK;have c:=HX.out _ (aR [] wo);clear hbw;by_cases hpe:pe=0
 focus (subst hpe;rw[if_pos rfl] at hA)
 rotate_left
 focus (rw[if_neg hpe] at hA;have dpe:(pe != 0)=true:=by simpa using hpe)
 rotate_left
 all_goals
  cases hA
  go_enter Tryz.func172,Tryz.ntmps172
  go_wp2_with (first|((with_reducible first|refine cM (HR.out _ gO) ?_|refine cM (HP.out _) ?_|refine cM (HAR.out _) ?_|refine cM (HST.out _) ?_|refine cM (HRP.out _) ?_|refine cU ?_|refine wU ?_);clear k m c;intro w m k;have c:=HX.out w m.zO)|((with_reducible refine rX (id:=21) [2,3] [0,1,4,5] 5 (by kernel_rfl) (by kernel_rfl) ?_);simp only[bV];(repeat (refine aJ (fun K hK=>?_);go_simp;refine hK _ ?_;clear hK K));refine aK ?_;clear k m c;intro w m k;have c:=HX.out w m.zO;((iterate 5 all_goals ((first|refine xN [0,1] (by decide +kernel) ?_|refine xN [1,4] (by decide +kernel) ?_|refine xN [4] (by decide +kernel) ?_|refine xN [5] (by decide +kernel) ?_|refine xN [6] (by decide +kernel) ?_|refine xN [1] (by decide +kernel) ?_|refine xN [0] (by decide +kernel) ?_);simp only[List.mem_cons,List.not_mem_nil,or_false,forall_eq_or_imp,forall_eq];(repeat' with_reducible refine And.intro ?_ ?_);all_goals (refine aD rfl ?_;go_wp2;simp only[bA];refine⟨aT (by kernel_rfl),tW ?_⟩;clear k m c;intro w m k;have c:=HX.out w m.zO)));all_goals unfold SN))|((with_reducible refine wL ?_);clear k m c;intro w m k;have c:=HX.out w m.zO))
  all_goals ((try simp only[List.set] at m k);refine lE (fun w o g k K hK=>⟨rfl,?_⟩);simp[results,Tryz.results172,go_sem,k];refine hK _ ?_;clear hK K k;first|exact⟨rfl,o⟩|exact⟨by rw[dre],o⟩)
theorem ZI {w0 w:World} {own:Col} {s:dW} {p:kI} {st:bT} (h:aX w0 w own s p st) (hs:fK w s) {i:Nat} (hi:i<s.nd.length) (z:Np) (t:Int) (t0:0<=t) (t1:t<=1125899906842624) (hrf:(s.nd.getD i bD).n.rf=false) (hcl:gW st i=none) :
  Calls Tryz.prog 172 #[.pointer (some ⟨p.bw,0,none⟩),.int .i64 i,iR z,.int .i64 t] w fun e w'=>e=.returned (.tuple #[iR (fG s.sc st i z t).1,dV (fG s.sc st i z t).2.1,.bool (fG s.sc st i z t).2.2])/\Oy [] w w':=by
 obtain⟨a1,a2,a3,HANS⟩:∃ a1 a2 a3,Hid (fG s.sc st i z t=(a1,a2,a3)):=⟨_,_,_,aA rfl⟩;rw[HANS.out];dsimp only;have hA:=HANS.out;clear HANS;unfold fG at hA;rw[fH] at hA;have hnw:=hs.ok.ndo _ (bS bD hi);have ho:=hs.osc _ (bS bD hi);have her:=hs.er _ (bS bD hi);have hnl:=hs.nl;have HV:=aA hs.ok.nd;have hl:=hs.ok.ln;obtain⟨bk,off,hpn,-⟩:=HV.out.nd (aR [] w) hi
 have HX:=aA (show ∀ w',Oy [] w w'->bk<w'.heap.size/\w'.cell? ⟨bk,off+i*7,none⟩=some (.int .i64 (s.nd.getD i bD).n.ph)/\w'.cell? ⟨bk,off+i*7+1,none⟩=some (.slice (s.nd.getD i bD).ps (s.nd.getD i bD).n.sg.length (s.nd.getD i bD).cs)/\w'.cell? ⟨bk,off+i*7+2,none⟩=some (.int .i64 (s.nd.getD i bD).n.tol)/\w'.cell? ⟨bk,off+i*7+3,none⟩=some (.bool (s.nd.getD i bD).n.rf)/\w'.cell? ⟨bk,off+i*7+4,none⟩=some (.int .i64 (s.nd.getD i bD).n.er)/\w'.cell? ⟨bk,off+i*7+5,none⟩=some (.int .i64 (s.nd.getD i bD).n.st)/\w'.cell? ⟨bk,off+i*7+6,none⟩=some (.slice (s.nd.getD i bD).pv (s.nd.getD i bD).n.sv.length (s.nd.getD i bD).cv)/\p.ca<w'.heap.size/\w'.cell? ⟨p.ca,i,none⟩=some (.pointer (((p.pl.getD i none).map Pl.bc).map fun b=>⟨b,0,none⟩)) from fun w' o=>by
  obtain⟨b',o',e,c1,c2,c3,c4,c5,c6,c7,c8⟩:=HV.out.nd o hi;rw[hpn] at e
  cases e
  exact⟨c1,c2,c3,c4,c5,c6,c7,c8,h.cell hi o⟩)
 have hbw:=h.wa.2;rw[hpn] at hbw;have hi2:(i:Int)<(s.nd.length:Int):=by omega
 have hsl:=hi;have HP:=aA (fun w'=>BS (s.nd.getD i bD).n.er (i+1) w');have HAR:=aA (fun w'=>H9 t (s.nd.getD i bD).n.er (by omega) (by omega) w');have HR:=aA (fun w' (o:Oy [] w w')=>pRaw (h.wa.kept o (by simp)) (hs.ok.kept o) hi ho t t0 t1);have HST:=aA (fun w'=>nM (3900000000000000000+t) (by omega) (by omega) w');have e1:wrap .i64 (3900000000000000000+t)=3900000000000000000+t:=by rw[wrap_i64];omega
 have e2:wrap .i64 ((i:Int)+1)=(i:Int)+1:=by rw[wrap_i64];omega
 have e3:wrap .u32 ((i:Int)+1)=(i:Int)+1:=by rw[wrap_u32];omega
 have hcn:=HV;clear hcn;rw[if_neg (by rw[hrf];decide),hcl] at hA;rw[hrf,h.cl_none hcl] at HX;clear h hs hnw ho HV hpn hnl HP HAR HST;generalize (s.nd.getD i bD).n.er=er at *;generalize (s.nd.getD i bD).n=nd at *;obtain⟨z1,z2,z3,z4,z5,z6,z7,z8,z9,za,zb,zc,zd⟩:=z
 cases hA
 unfold iR dV zA at *;dsimp only at *;obtain⟨wo,rfl⟩:∃ wo:World,wo=w:=⟨_,rfl⟩;have m:=iX hbw;have k:=m.zK;have c:=HX.out _ (aR [] wo);clear hbw;go_enter Tryz.func172,Tryz.ntmps172
 go_wp2_with (first|((with_reducible first|refine cM (HR.out _ gO) ?_|refine cU ?_|refine wU ?_);clear k m c;intro w m k;have c:=HX.out w m.zO)|((with_reducible refine rX (id:=21) [2,3] [0,1,4,5] 5 (by kernel_rfl) (by kernel_rfl) ?_);simp only[bV];(repeat (refine aJ (fun K hK=>?_);go_simp;refine hK _ ?_;clear hK K));refine aK ?_;clear k m c;intro w m k;have c:=HX.out w m.zO;((iterate 5 all_goals ((first|refine xN [0,1] (by decide +kernel) ?_|refine xN [1,4] (by decide +kernel) ?_|refine xN [4] (by decide +kernel) ?_|refine xN [5] (by decide +kernel) ?_|refine xN [6] (by decide +kernel) ?_|refine xN [1] (by decide +kernel) ?_|refine xN [0] (by decide +kernel) ?_);simp only[List.mem_cons,List.not_mem_nil,or_false,forall_eq_or_imp,forall_eq];(repeat' with_reducible refine And.intro ?_ ?_);all_goals (refine aD rfl ?_;go_wp2;simp only[bA];refine⟨aT (by kernel_rfl),tW ?_⟩;clear k m c;intro w m k;have c:=HX.out w m.zO)));all_goals unfold SN))|((with_reducible refine wL ?_);clear k m c;intro w m k;have c:=HX.out w m.zO))
 all_goals ((try simp only[List.set] at m k);refine lE (fun w o g k K hK=>⟨rfl,?_⟩);simp[results,Tryz.results172,go_sem,k];refine hK _ ?_;clear hK K k;first|exact⟨rfl,o⟩|exact⟨by rw[dre],o⟩)
theorem ZJ {w0 w:World} {own:Col} {s:dW} {p:kI} {st:bT} (h:aX w0 w own s p st) (hs:fK w s) {i:Nat} (hi:i<s.nd.length) (z:Np) (t:Int) (t0:0<=t) (t1:t<=1125899906842624) (hrf:(s.nd.getD i bD).n.rf=false) {c:Cl} (hcl:gW st i=some c) (hv:yL c) :
  Calls Tryz.prog 172 #[.pointer (some ⟨p.bw,0,none⟩),.int .i64 i,iR z,.int .i64 t] w fun e w'=>e=.returned (.tuple #[iR (fG s.sc st i z t).1,dV (fG s.sc st i z t).2.1,.bool (fG s.sc st i z t).2.2])/\Oy [] w w':=by
 obtain⟨a1,a2,a3,HANS⟩:∃ a1 a2 a3,Hid (fG s.sc st i z t=(a1,a2,a3)):=⟨_,_,_,aA rfl⟩;rw[HANS.out];dsimp only;have hA:=HANS.out;clear HANS;unfold fG at hA;rw[fH] at hA;have hnw:=hs.ok.ndo _ (bS bD hi);have ho:=hs.osc _ (bS bD hi);have her:=hs.er _ (bS bD hi);have hnl:=hs.nl;have HV:=aA hs.ok.nd;have hl:=hs.ok.ln;obtain⟨bk,off,hpn,-⟩:=HV.out.nd (aR [] w) hi
 have HX:=aA (show ∀ w',Oy [] w w'->bk<w'.heap.size/\w'.cell? ⟨bk,off+i*7,none⟩=some (.int .i64 (s.nd.getD i bD).n.ph)/\w'.cell? ⟨bk,off+i*7+1,none⟩=some (.slice (s.nd.getD i bD).ps (s.nd.getD i bD).n.sg.length (s.nd.getD i bD).cs)/\w'.cell? ⟨bk,off+i*7+2,none⟩=some (.int .i64 (s.nd.getD i bD).n.tol)/\w'.cell? ⟨bk,off+i*7+3,none⟩=some (.bool (s.nd.getD i bD).n.rf)/\w'.cell? ⟨bk,off+i*7+4,none⟩=some (.int .i64 (s.nd.getD i bD).n.er)/\w'.cell? ⟨bk,off+i*7+5,none⟩=some (.int .i64 (s.nd.getD i bD).n.st)/\w'.cell? ⟨bk,off+i*7+6,none⟩=some (.slice (s.nd.getD i bD).pv (s.nd.getD i bD).n.sv.length (s.nd.getD i bD).cv)/\p.ca<w'.heap.size/\w'.cell? ⟨p.ca,i,none⟩=some (.pointer (((p.pl.getD i none).map Pl.bc).map fun b=>⟨b,0,none⟩)) from fun w' o=>by
  obtain⟨b',o',e,c1,c2,c3,c4,c5,c6,c7,c8⟩:=HV.out.nd o hi;rw[hpn] at e
  cases e
  exact⟨c1,c2,c3,c4,c5,c6,c7,c8,h.cell hi o⟩)
 have hbw:=h.wa.2;rw[hpn] at hbw;have hi2:(i:Int)<(s.nd.length:Int):=by omega
 have hsl:=hi;have HP:=aA (fun w'=>BS (s.nd.getD i bD).n.er (i+1) w');have HAR:=aA (fun w'=>H9 t (s.nd.getD i bD).n.er (by omega) (by omega) w');have HR:=aA (fun w' (o:Oy [] w w')=>pRaw (h.wa.kept o (by simp)) (hs.ok.kept o) hi ho t t0 t1);have HST:=aA (fun w'=>nM (3900000000000000000+t) (by omega) (by omega) w');have e1:wrap .i64 (3900000000000000000+t)=3900000000000000000+t:=by rw[wrap_i64];omega
 have e2:wrap .i64 ((i:Int)+1)=(i:Int)+1:=by rw[wrap_i64];omega
 have e3:wrap .u32 ((i:Int)+1)=(i:Int)+1:=by rw[wrap_u32];omega
 obtain⟨P,hP,-,-,hat,-⟩:=h.I7 hcl;have hob:=IC ho t0 t1;rw[if_neg (by rw[hrf];decide),hcl] at hA;rw[hrf,hP] at HX;have hraw:bN s.sc i t=qR (s.nd.getD i bD).n.ph (s.nd.getD i bD).n.sg t:=by unfold bN;rw[fH]
 rw[<-hraw] at hob;clear hraw;dsimp only[Option.map_some] at HX;dsimp only at hA;generalize bN s.sc i t=raw at *;have HN:=aA (fun w' (o:Oy [] w w')=>CB (hat.kept o) hv.u.ok.ck raw (by omega) (by omega));have HI:=aA (fun w' (o:Oy [] w w')=>FQ (hat.kept o) hv.u.ok raw (by omega) (by omega));have HRT:=aA (fun w' (o:Oy [] w w')=>pClRoot (hat.kept o));have hnb:=DJ (c:=c) (raw:=raw);have HST:=aA (fun (h0:(aZ c raw).2=0) w'=>nM (3900000000000000000+(aZ c raw).1) (by have:=hnb h0;omega) (by have:=hnb h0;omega) w');have HRP:=aA (fun w'=>YJ z (mF (3900000000000000000+(aZ c raw).1)) c.rt w');have e9:(aZ c raw).2=0->wrap .i64 (3900000000000000000+(aZ c raw).1)=3900000000000000000+(aZ c raw).1:=fun h0=>by have:=hnb h0;rw[wrap_i64];omega
 clear h hs hnw ho HV hpn hnl HP HAR hat hob hP hnb;generalize (s.nd.getD i bD).n.er=er at *;generalize (s.nd.getD i bD).n=nd at *;generalize aZ c raw=cn at *;generalize nS c raw=ci at *;obtain⟨x,e⟩:=cn;obtain⟨⟨v1,v2⟩,ie⟩:=ci;generalize c.rt=rt at *;obtain⟨r1,r2,r3,r4⟩:=rt;dsimp only at *;generalize mF (3900000000000000000+x)=tm at *;generalize yY z tm ⟨r1,r2,r3,r4⟩=rp at *;obtain⟨⟨x1,x2,x3,x4,x5,x6,x7,x8,x9,xa,xb,xc,xd⟩,re⟩:=rp;obtain⟨z1,z2,z3,z4,z5,z6,z7,z8,z9,za,zb,zc,zd⟩:=z;have dre:(re == 0)=decide (re=0):=by rw[Bool.eq_iff_iff];simp
 unfold iR dV at *;unfold JK at HRP;unfold zA at hA;dsimp only at *;by_cases h0:e=0
 focus (subst h0;have HS2:=aA (HST.out rfl);have e10:=e9 rfl;clear HST e9;by_cases h1:ie=0)
 focus (subst h1;rw[if_pos ⟨rfl,rfl⟩] at hA)
 rotate_left
 focus (rw[if_neg (fun h=>h1 h.2)] at hA;have dpe:(ie != 0)=true:=by simpa using h1)
 rotate_left
 focus (rw[if_neg (fun h=>h0 h.1)] at hA;have dpe:(e != 0)=true:=(by simpa using h0);have dpe2:(e == 0)=false:=(by simpa using h0))
 rotate_left
 all_goals
  cases hA
  obtain⟨wo,rfl⟩:∃ wo:World,wo=w:=⟨_,rfl⟩;have m:=iX hbw;have k:=m.zK;have c:=HX.out _ (aR [] wo);clear hbw;go_enter Tryz.func172,Tryz.ntmps172
  go_wp2_with (first|((with_reducible first|refine cM (HR.out _ gO) ?_|refine cM (HN.out _ gO) ?_|refine cM (HI.out _ gO) ?_|refine cM (HRT.out _ gO) ?_|refine cM (HS2.out _) ?_|refine cM (HRP.out _) ?_|refine cU ?_|refine wU ?_);clear k m c;intro w m k;have c:=HX.out w m.zO)|((with_reducible refine rX (id:=21) [2,3] [0,1,4,5] 5 (by kernel_rfl) (by kernel_rfl) ?_);simp only[bV];(repeat (refine aJ (fun K hK=>?_);go_simp;refine hK _ ?_;clear hK K));refine aK ?_;clear k m c;intro w m k;have c:=HX.out w m.zO;((iterate 5 all_goals ((first|refine xN [0,1] (by decide +kernel) ?_|refine xN [1,4] (by decide +kernel) ?_|refine xN [4] (by decide +kernel) ?_|refine xN [5] (by decide +kernel) ?_|refine xN [6] (by decide +kernel) ?_|refine xN [1] (by decide +kernel) ?_|refine xN [0] (by decide +kernel) ?_);simp only[List.mem_cons,List.not_mem_nil,or_false,forall_eq_or_imp,forall_eq];(repeat' with_reducible refine And.intro ?_ ?_);all_goals (refine aD rfl ?_;go_wp2;simp only[bA];refine⟨aT (by kernel_rfl),tW ?_⟩;clear k m c;intro w m k;have c:=HX.out w m.zO)));all_goals unfold SN))|((with_reducible refine wL ?_);clear k m c;intro w m k;have c:=HX.out w m.zO))
  all_goals ((try simp only[List.set] at m k);refine lE (fun w o g k K hK=>⟨rfl,?_⟩);simp[results,Tryz.results172,go_sem,k];refine hK _ ?_;clear hK K k;first|exact⟨rfl,o⟩|exact⟨by rw[dre],o⟩)
end Go.Proofs.YtppjhbjmfkiejaaGreat
