/- Rt3 Rt4 Rt5 -/
import Derived.Test.YtedgpfgccpnjnaaGreatFRs3
import Derived.Test.YtedgpfgccpnjnaaGreatFJm
import Derived.Test.YtedgpfgccpnjnaaGreatFR7
import Derived.Test.YtedgpfgccpnjnaaGreatFRt1
import Derived.Test.YtedgpfgccpnjnaaGreatFRsb
import Derived.Test.YtedgpfgccpnjnaaGreatFRs5
import Derived.Test.YtedgpfgccpnjnaaGreatFPn
import Derived.Test.YtedgpfgccpnjnaaGreatFRse
namespace Go.Proofs.YtedgpfgccpnjnaaGreat
section
open Go.Lib (hid)
set_option maxRecDepth 100000
set_option maxHeartbeats 4000000
open Go.RowKit Go.Sort
theorem pClRoot {w:World} {P:Pl} {c:Cl} (h:ClAt w P c)  :
  Calls Tryz.prog 40 #[.pointer (some ⟨P.bc,0,none⟩)] w fun e w'=>e=.returned (.agg #[.int .i64 c.rt.str,.int .i64 c.rt.dly,.int .i64 c.rt.dsp,.int .u32 c.rt.ref])∧Only [] w w':=by
 have hl:=h.cl;unfold ClB at hl;have m:=mmR hl;have k:=m.out.k;clear hl;go_enter Tryz.func40,Tryz.ntmps40
 go_wp2_with (first|((with_reducible refine wU ?_);clear k m;intro w m k)|((with_reducible refine lE (fun w o g k K hK=>⟨rfl,?_⟩));simp[results,Tryz.results40,go_sem,k];refine hK _ ?_;exact⟨rfl,o⟩))
def rchO (c:Cl) (i:Int):Rch:=if wth i 0 (c.srcs.length-1)=true then (c.srcs.getD i.toNat (sr0 c.cf)).rc else ⟨0,0,0,0,0⟩
theorem pClReach {w:World} {P:Pl} {c:Cl} (h:ClAt w P c) (hn:P.ps.length≤100) (i:Int)  :
  Calls Tryz.prog 44 #[.pointer (some ⟨P.bc,0,none⟩),.int .i64 i] w fun e w'=>e=.returned (rcV (rchO c i))∧Only [] w w':=by
 have hlen:=h.len;have HLEN:=hid hlen;have HO:=hid (fun w'=>pOutside i 0 ((P.ps.length:Int)-1) w');have hcl:=h.cl;unfold ClB at hcl;unfold rchO;rw[←hlen];clear hlen;have r1:IntKind.i64.wrap ((P.ps.length:Int)-1)=(P.ps.length:Int)-1:=by rw[IntKind.wrap_i64];omega
 by_cases hw:wth i 0 ((P.ps.length:Int)-1)=true
 rotate_left
 ·rw[if_neg hw]
  have hw2:wth i 0 ((P.ps.length:Int)-1)=false:=by simpa using hw
  rw[hw2] at HO;clear hw;have m:=mmR hcl;have k:=m.out.k;clear hcl;unfold rcV;dsimp only;go_enter Tryz.func44,Tryz.ntmps44
  go_wp2_with (first|((with_reducible first|refine cM (HO.out _) ?_|refine wU ?_);clear k m;intro w m k)|((with_reducible refine lE (fun w o g k K hK=>⟨rfl,?_⟩));simp[results,Tryz.results44,go_sem,k];refine hK _ ?_;exact⟨rfl,o⟩))
 ·rw[if_pos hw]
  rw[hw] at HO;have hb:=wth_iff.1 hw;obtain⟨i,rfl⟩:∃ j:Nat,i=j:=⟨i.toNat,by omega⟩;have hi:i<P.ps.length:=by omega
  have hic:i<c.srcs.length:=by have:=HLEN.out;omega
  rw[show c.srcs.getD (i:Int).toNat (sr0 c.cf)=c.srcs[i] by simp[hic]];have hsb:=(h.src i hi hic).b
  have cg:w.cell? ⟨P.g,i,none⟩=some (.pointer (some ⟨P.ps[i].1,0,none⟩)):=by
   have:=h.row.cell ptrC_len (i:=i) (j:=0) (x:=P.ps[i].1) (by rw[List.getElem?_map,List.getElem?_eq_getElem hi];rfl) (by decide);simpa [ptrC] using this
  have lg:=h.row.lt;have hne:=(pl_nd h).2.2.2.2.2.2 _ (List.getElem_mem hi) P.ps[i].1 (by simp);have hn1:=hne.1;generalize P.ps[i]=pp at hsb cg hn1;obtain⟨pb,pa,pf⟩:=pp;dsimp only at hsb cg hn1;generalize c.srcs[i]=s at hsb ⊢;unfold SrB at hsb;have HX:=hid (fun w' (o:Only [] w w')=>And.intro (Nat.lt_of_lt_of_le lg o.size) ((o.cell lg (by simp)).trans cg));have hii:(i:Int)<(P.ps.length:Int):=by omega
  clear hw hb hne cg lg;obtain⟨wo,hwo⟩:∃ wo:World,wo=w:=⟨_,rfl⟩;subst hwo;have m:Mm wo [] wo _:=⟨((Mem.start wo []).ext false hcl (by simp) (by simp)).ext false hsb (by simp;exact Ne.symm hn1) (by simp)⟩;have k:=m.out.k;have c:=HX.out wo (Only.refl _ wo);clear hcl hsb;unfold rcV;go_enter Tryz.func44,Tryz.ntmps44
  go_wp2_with (first|((with_reducible first|refine cU ?_|refine cM (HO.out _) ?_|refine wU ?_);clear k m c;intro w m k;have c:=HX.out w m.out.only)|((with_reducible refine lE (fun w o g k K hK=>⟨rfl,?_⟩));simp[results,Tryz.results44,go_sem,k];refine hK _ ?_;exact⟨rfl,o⟩))
theorem qClReachAll {M:List Nat} {w:World} {P:Pl} {c:Cl} (h:QClAt M w P c) (i:Int)  :
  Calls Tryz.prog 45 #[.pointer (some ⟨P.bc,0,none⟩),.int .i64 i] w fun e w'=>e=.returned (rcV (rchO c i))∧Only [] w w':=by
 have hlen:=h.len;unfold rchO;by_cases hw:wth i 0 (c.srcs.length-1)=true
 ·rw[if_pos hw]
  have hb:=wth_iff.1 hw;obtain⟨i,rfl⟩:∃ j:Nat,i=j:=⟨i.toNat,by omega⟩;have hic:i<c.srcs.length:=by omega
  rw[show c.srcs.getD (i:Int).toNat (sr0 c.cf)=c.srcs[i] by simp[hic]];exact qClReach h i (by omega) hic
 rw[if_neg hw];have hno:¬ (0≤i∧i≤(c.srcs.length:Int)-1):=fun hh=>hw (wth_iff.2 hh);have hcl:=h.cl;unfold QClB at hcl;rw[←hlen] at hno;obtain⟨n,hn⟩:∃ n,P.ps.length=n:=⟨_,rfl⟩;rw[hn] at hno hcl;clear hw hn;unfold rcV;dsimp only;by_cases h0:i<0
 rotate_left
 focus
  have h1:(n:Int)≤i:=by omega
 rotate_left
 all_goals
  have m:=mmR hcl;have k:=m.out.k;clear hcl;go_enter Tryz.func45,Tryz.ntmps45
  go_wp2_with (first|((with_reducible refine wU ?_);clear k m;intro w m k)|((with_reducible refine lE (fun w o g k K hK=>⟨rfl,?_⟩));simp[results,Tryz.results45,go_sem,k];refine hK _ ?_;exact⟨rfl,o⟩))
theorem vrow_cd2 {w:World} {b off n cap:Nat} {l:List Cd} (hv:VRow cdC 5 w (some ⟨b,off,none⟩) n cap l) {j:Nat} (hj:j<l.length):b<w.heap.size∧CdF w b (off+j*5) l[j]:=by
 obtain⟨b',o',hp,hb,HC⟩:=hv.at (show 0<l.length by omega);obtain⟨rfl,rfl⟩:b=b'∧off=o':=by simpa using hp
 exact⟨hb,HC j hj w (Only.refl [] w)⟩
theorem pSame {w:World} {p1 p2:Option Addr} {n1 c1 n2 c2:Nat} {l:List Cd} (h1:VRow cdC 5 w p1 n1 c1 l) (h2:VRow cdC 5 w p2 n2 c2 l)  :
  Calls Tryz.prog 37 #[.slice p1 n1 c1,.slice p2 n2 c2] w fun e w'=>e=.returned (.bool true)∧Only [] w w':=by
 obtain rfl:n1=l.length:=h1.len.symm;obtain rfl:n2=l.length:=h2.len.symm;have HV1:=hid h1;have HV2:=hid h2;have hlm:l.length≤9223372036854775807:=Nat.le_trans (Nat.le_trans h1.le h1.cm) (by decide);clear h1 h2;obtain⟨wo,hwo⟩:∃ wo:World,wo=w:=⟨_,rfl⟩;subst hwo;have m:=mm0 wo [];have k:=m.out.k;go_enter Tryz.func37,Tryz.ntmps37
 go_wp2_with ((with_reducible first|refine cU ?_|refine wU ?_);clear k m;intro w m k)
 have OW:=hid (Only.refl [] wo);clear k m;go_loopw [13] (fun vi wr=>∃ k:Nat,k≤l.length∧vi=.int .i64 k∧Only [] wo wr) (fun vi _=>l.length-(intOf vi).toNat)
 case atStart=>exact⟨0,Nat.zero_le _,rfl,OW.out⟩
 case round =>
  obtain⟨j,hj,rfl,ho⟩:=hrel;by_cases hlt:j<l.length
  ·obtain⟨b1,o1,rfl,-,-⟩:=HV1.out.at (show 0<l.length by omega)
   obtain⟨b2,o2,rfl,-,-⟩:=HV2.out.at (show 0<l.length by omega);have hlt2:(j:Int)<(l.length:Int):=by omega
   have HX:=hid (fun w' (o:Only [] wr w')=>And.intro (vrow_cd2 (HV1.out.kept (ho.nil_trans o)) hlt) (vrow_cd2 (HV2.out.kept (ho.nil_trans o)) hlt));generalize l[j]=d at HX;obtain⟨d1,d2,d3,d4,d5⟩:=d;simp only[CdF] at HX;have HO:=hid ho;have HLT:=hid hlt;clear ho hj hlt;have m:=mm0 wr [];have k:=m.out.k;have c:=HX.out wr (Only.refl _ wr);go_wp2_with (first|((with_reducible first|refine cU ?_|refine wU ?_);clear k m c;intro w m k;have c:=HX.out w m.out.only)|((with_reducible refine rG (id:=6) [0,1,2,3,4,5,6,7,8] [] (by kernel_rfl) (by kernel_rfl) ?_);simp only[pick,List.map_cons,List.map_nil,List.getD_cons_succ,List.getD_cons_zero];(repeat' (first|go_big_quiet_step (fail)|(refine wpQuiet_step (fun K hK=>?_);go_simp;(first|(refine hK _ ?_;clear hK K)|(split<;>(refine hK _ ?_;clear hK K))))));all_goals (refine wpQuiet_nil ?_;clear k m c;intro w m k;have c:=HX.out w m.out.only))|(go_roundw;(case rel=>exact⟨j+1,HLT.out,by go_num,HO.out.nil_trans gO⟩);(case measure=>first|(have:=HLT.out;simp[intOf];done)|(have:=HLT.out;simp[intOf];omega))))
  ·obtain rfl:j=l.length:=by omega
   have HO:=hid ho;clear ho;have m:=mm0 wr [];have k:=m.out.k;go_wp2_with (first|((with_reducible first|refine cU ?_|refine wU ?_);clear k m;intro w m k)|((with_reducible refine lE (fun w o g k K hK=>⟨rfl,?_⟩));simp[results,Tryz.results37,go_sem];refine hK _ ?_;exact⟨rfl,HO.out.nil_trans o⟩))
end
section
open Go.Lib (hid)
set_option maxRecDepth 100000
set_option maxHeartbeats 8000000
open Go.RowKit Go.Sort
theorem fs_all {P:Pl} {b:Nat} (h:b∈P.fs):b∈P.all:=by
 obtain⟨p,h1,h2⟩:=List.mem_map.1 h;unfold Pl.all;simp only[List.mem_cons];exact .inr (.inr (.inr (.inr (List.mem_flatMap.2 ⟨p,h1,by rw[←h2];simp⟩))))
theorem pLook {M:List Nat} {w:World} {P Q:Pl} {c:Cl} (hx:ClAt w P c) (hy:QClAt M w Q c) (hR:ClR c) (hPM:∀ b∈P.all,b∈M) (hPQ:∀ b∈Q.all,b ∉ P.all) (server raw:Int) (hraw: -4611686018427387904≤raw∧raw≤4611686018427387904) :
  Calls Tryz.prog 11 #[.pointer (some ⟨P.bc,0,none⟩),.pointer (some ⟨Q.bc,0,none⟩),.int .i64 server,.int .i64 raw] w fun e w'=>e=.returned (.bool true)∧(ClAt w' P c∧QClAt M w' Q c)∧Only P.fs w w':=by
 have HCX:=hid hx;have HCY:=hid hy;have HRR:=hid hR;have hok:=hR.u.ok;have HP12:P.ps.length≤12:=by have:=hx.len;have:=hok.len;have:=hok.s1;omega
 have HQ12:Q.ps.length≤12:=by have:=hy.len;have:=hok.len;have:=hok.s1;omega
 have HQS:c.cf.servers=(Q.ps.length:Int):=by have:=hy.len;have:=hok.len;omega
 have HQ1:1≤Q.ps.length:=by have:=hok.s0;omega
 have r0: -9223372036854775808≤raw:=by omega
 have r1:raw≤9223372036854775807:=by omega
 have hpat:∀ s∈c.srcs,-9223372036854775808≤raw-s.pat∧raw-s.pat≤9223372036854775807:=fun s hs=>by have:=(hok.src s hs).2;omega
 have hown: -9223372036854775808≤raw-c.owned∧raw-c.owned≤9223372036854775807:=by have:=hok.own;omega
 have HNX:=hid (fun w' (o:Only [] w w')=>pClNow (hx.kept o) hok.ck raw r0 r1);have HNY:=hid (fun w' (o:Only [] w w')=>qClNow (hy.kept o) hok.ck raw);have HIX:=hid (fun w' (o:Only [] w w')=>pClInterval (hx.kept o) hok.ck HP12 hok.s0 hok.s1 raw r0 r1 (fun _=>hpat) (fun _=>hown));have HIY:=hid (fun w' (o:Only [] w w')=>qClItv (hy.kept o) HQ12 HQS HQ1 raw hpat hown hok.ck);generalize clNow c raw=nn at HNX HNY;obtain⟨nv,ne⟩:=nn;generalize itvC c raw=iv at HIX HIY;obtain⟨⟨i1,i2⟩,ie⟩:=iv;simp only[ivV] at HIX HIY;clear hx hy hpat hown;obtain⟨wo,hwo⟩:∃ wo:World,wo=w:=⟨_,rfl⟩;subst hwo;have m:=mm0 wo [];have k:=m.out.k;go_enter Tryz.func11,Tryz.ntmps11
 go_wp2_with ((with_reducible first|refine cU ?_|refine cM (HNX.out _ gO) ?_|refine cM (HNY.out _ gO) ?_|refine cM (HIX.out _ gO) ?_|refine cM (HIY.out _ gO) ?_|refine wU ?_);clear k m;intro w m k)
 refine (pCands (HCX.out.kept m.out.only) hok.ck HP12 hR.u.g raw r0 r1).mono ?_;rintro e w2 ⟨⟨v,rfl,hown⟩,hcl2,ho2⟩;have O2:=hid ((m.out.only.weak (S':=P.fs) (by simp)).trans ho2 (fun x hx=>.inl hx));have HX2:=hid hcl2;have HY2:=hid ((HCY.out.kept m.out.only).off ho2 (fun b hb hm=>hPQ b hb (fs_all hm)) (fun x hx=>.inl (hPM x (fs_all hx))));obtain⟨p1,cap1,rfl,hv1⟩:=Own.vrow (enc:=cdC) (s:=5) cdC_len hown;have HV1:=hid hv1;clear k m hown hv1 hcl2 ho2 HNX HNY HIX HIY;go_wp2_with fail
 refine (qCands HY2.out hok.ck HQ12 hR.u.tol hR.ft hR.u.g hR.ri raw).mono ?_;rintro e w3 ⟨⟨v,rfl,hown3⟩,ho3⟩;obtain⟨p2,cap2,rfl,hv2⟩:=Own.vrow (enc:=cdC) (s:=5) cdC_len hown3;have O3:=hid (O2.out.trans ho3 (by simp));have HX3:=hid (HX2.out.kept ho3);have HY3:=hid (HY2.out.kept ho3);have HV13:=HV1.out.kept ho3;have HSM:=hid (fun w' (o:Only [] w3 w')=>pSame (HV13.kept o) (hv2.kept o));have HRX:=hid (fun w' (o:Only [] w3 w')=>pClRoot (HX3.out.kept o));have HRY:=hid (fun w' (o:Only [] w3 w')=>qClRoot (HY3.out.kept o));have HKX:=hid (fun w' (o:Only [] w3 w')=>pClClock (HX3.out.kept o));have HKY:=hid (fun w' (o:Only [] w3 w')=>qClClock (HY3.out.kept o));have HEX:=hid (fun w' (o:Only [] w3 w')=>pClReach (HX3.out.kept o) (by omega) server);have HEY:=hid (fun w' (o:Only [] w3 w')=>qClReachAll (HY3.out.kept o) server);generalize cndC c raw=l at HV1 HV13 hv2 HSM hown3;generalize rchO c server=rv at HEX HEY;obtain⟨v1,v2,v3,v4,v5⟩:=rv;simp only[rcV] at HEX HEY;clear hv2 hown3 ho3 HV13 HV1;have m:=mm0 w3 [];have k:=m.out.k;go_wp2_with (first|((with_reducible first|refine cU ?_|refine cM (HSM.out _ gO) ?_|refine cM (HRX.out _ gO) ?_|refine cM (HRY.out _ gO) ?_|refine cM (HKX.out _ gO) ?_|refine cM (HKY.out _ gO) ?_|refine cM (HEX.out _ gO) ?_|refine cM (HEY.out _ gO) ?_|refine wU ?_);clear k m;intro w m k)|((with_reducible refine lE (fun w o g k K hK=>⟨rfl,?_⟩));simp[results,Tryz.results11,go_sem];refine hK _ ?_;exact⟨rfl,⟨HX3.out.kept o,HY3.out.kept o⟩,O3.out.trans o (by simp)⟩))
end
section
open Go.RowKit Go.Sort
structure TwS (wz w:World) (P Q:Pl) (M:List Nat) (cx cy:Cl) (bn:Nat) (ns:List Int):Prop where
 x:ClAt w P cx
 y:QClAt M w Q cy
 pm:∀ b∈P.all,b∈M
 pq:∀ b∈Q.all,b ∉ P.all
 ge:∀ b∈M,wz.heap.size≤b
 nb:bn∈M
 np:bn ∉ P.all
 nq:bn ∉ Q.all
 hn:w.heap[bn]? = some (.cells (nsV ns).toArray 38 (0,0))
 ln:ns.length=12
 nr:∀ x∈ns,0≤x∧x≤18446744073709551615
 only:Only [] wz w
section
variable {wz w w':World} {P Q P' Q':Pl} {M M':List Nat} {cx cy cx' cy':Cl} {bn:Nat} {ns ns':List Int}
theorem QClAt.offM {T:List Nat} (h:QClAt M w Q cy) (ho:Only T w w') (hT:∀ b∈Q.all,b ∉ T) (hM:∀ x∈T,x∈M'∨w.heap.size≤x) (hM':∀ x∈M',x∈M∨w.heap.size≤x) (hs:∀ x∈M,x∈M') (hml:∀ x∈M',x<w'.heap.size):QClAt M' w' Q cy:=
 h.putBM ho (fun b hb hm=>absurd hm (hT b hb)) hM hM' hs hml (ho.got h.cl (hT _ (by simp[Pl.all]))) rfl rfl rfl
theorem TwS.ml (h:TwS wz w P Q M cx cy bn ns):∀ b∈M,b<w.heap.size:=h.y.ml
theorem TwS.grow (h:TwS wz w P Q M cx cy bn ns) (ho:Only [] w w'):TwS wz w' P Q M cx cy bn ns:=
 ⟨h.x.kept ho,h.y.kept ho,h.pm,h.pq,h.ge,h.nb,h.np,h.nq,ho.got h.hn (by simp),h.ln,h.nr,h.only.nil_trans ho⟩
theorem TwS.opX (h:TwS wz w P Q M cx cy bn ns) (ho:Only P.all w w') (hx:ClAt w' P' cx') (hP:∀ b∈P'.all,b∈P.all∨w.heap.size≤b):TwS wz w' P' Q (P'.all ++ M) cx' cy bn ns:=by
 have hws:=h.only.size;have nin:∀ b∈M,b ∉ P.all→b ∉ P'.all:=fun b hb hn hm=>(hP b hm).elim hn (fun hh=>by have:=h.ml b hb;omega);have hge:∀ b∈P'.all,wz.heap.size≤b:=fun b hb=>(hP b hb).elim (fun hh=>h.ge b (h.pm b hh)) (fun hh=>by omega);refine⟨hx,?_,fun b hb=>List.mem_append_left _ hb,fun b hb=>nin b (h.y.sub b hb) (h.pq b hb),fun b hb=>(List.mem_append.1 hb).elim (hge b) (h.ge b),List.mem_append_right _ h.nb,nin bn h.nb h.np,h.nq,ho.got h.hn h.np,h.ln,h.nr,h.only.trans ho (fun b hb=>.inr (h.ge b (h.pm b hb)))⟩;refine h.y.offM ho h.pq (fun b hb=>.inl (List.mem_append_right _ (h.pm b hb))) (fun b hb=>(List.mem_append.1 hb).elim (fun hh=>(hP b hh).imp_left (h.pm b)) .inl) (fun b hb=>List.mem_append_right _ hb) (fun b hb=>(List.mem_append.1 hb).elim (hx.lt b) (fun hh=>Nat.lt_of_lt_of_le (h.ml b hh) ho.size))
theorem TwS.opY (h:TwS wz w P Q M cx cy bn ns) (ho:Only Q.all w w') (hy:QClAt M' w' Q' cy') (hM:∀ x∈M,x∈M') (hM':∀ x∈M',x∈M∨w.heap.size≤x) (hQ:∀ b∈Q'.all,b∈Q.all∨w.heap.size≤b):TwS wz w' P Q' M' cx cy' bn ns:=by
 have hws:=h.only.size;have hpq:∀ b∈P.all,b ∉ Q.all:=fun b hb hm=>h.pq b hm hb;refine⟨h.x.off ho hpq,hy,fun b hb=>hM b (h.pm b hb),fun b hb hm=>(hQ b hb).elim (fun hh=>h.pq b hh hm) (fun hh=>by have:=h.x.lt b hm;omega),fun b hb=>(hM' b hb).elim (h.ge b) (fun hh=>by omega),hM _ h.nb,h.np,fun hm=>(hQ bn hm).elim h.nq (fun hh=>by have:=h.ml bn h.nb;omega),ho.got h.hn h.nq,h.ln,h.nr,h.only.trans ho (fun b hb=>.inr (h.ge b (h.y.sub b hb)))⟩
theorem TwS.non (h:TwS wz w P Q M cx cy bn ns) (ho:Only [bn] w w') (hb:w'.heap[bn]? = some (.cells (nsV ns').toArray 38 (0,0))) (hl:ns'.length=12) (hr:∀ x∈ns',0≤x∧x≤18446744073709551615):TwS wz w' P Q M cx cy bn ns':=by
 have hp:∀ b∈P.all,b ∉ [bn]:=fun b hb hm=>h.np (List.mem_singleton.1 hm ▸ hb);have hq:∀ b∈Q.all,b ∉ [bn]:=fun b hb hm=>h.nq (List.mem_singleton.1 hm ▸ hb);exact⟨h.x.off ho hp,h.y.off ho hq (fun x hx=>.inl (List.mem_singleton.1 hx ▸ h.nb)),h.pm,h.pq,h.ge,h.nb,h.np,h.nq,hb,hl,hr,h.only.trans ho (fun b hb=>.inr (by rw[List.mem_singleton.1 hb];exact h.ge bn h.nb))⟩
end
end
end Go.Proofs.YtedgpfgccpnjnaaGreat
