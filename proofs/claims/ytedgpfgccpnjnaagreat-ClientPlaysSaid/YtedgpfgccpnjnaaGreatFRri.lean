/- Rri Rrj Rrk -/
import Derived.Test.YtedgpfgccpnjnaaGreatFRra
import Derived.Test.YtedgpfgccpnjnaaGreatFRp1
namespace Go.Proofs.YtedgpfgccpnjnaaGreat
section
open Go.Lib (hid)
set_option maxRecDepth 100000
set_option maxHeartbeats 8000000
open Go.RowKit Go.Sort
theorem qSqrt (n:Nat) (h1:n≤9223372036854775807) (w:World) :
  Calls Tryz.prog 224 #[.int .i64 n] w fun e w'=>e=.returned (.tuple #[.int .i64 (isq n:Int),.bool true])∧Only [] w w':=by
 have hisq:=isq_le (n:=n) (by omega);have HR:Hid (isq n=isqF n 32 0):=hid rfl;generalize isq n=res at HR hisq ⊢;have hn0:¬ (n:Int)<0:=by omega
 obtain⟨wo,hwo⟩:∃ wo:World,wo=w:=⟨_,rfl⟩;subst hwo;go_enter Tryz.func224,Tryz.ntmps224
 go_wp2_with fail
 go_loopw [4,5] (fun vr vb wr=>∃ r k:Nat,vr=.int .i64 r∧vb=.int .i64 ((2 ^ k / 2:Nat):Int)∧k≤32∧r+2 ^ k≤4294967296∧Hid (res=isqF n k r)∧Only [] wo wr) (fun _ vb _=>(intOf vb).toNat)
 case atStart=>exact⟨0,32,rfl,rfl,by omega,by omega,HR,Only.refl _ _⟩
 case round =>
  obtain⟨r,k,rfl,rfl,hk,hr,HI,ho⟩:=hrel;have OO:=hid ho;rcases k with _|j
  ·have HI2:Hid (res=r):=hid HI.out
   obtain rfl:=HI2.out;clear HI hr;have m:=mm0 wr [];have k:=m.out.k;go_wp2_with (first|((with_reducible refine wU ?_);clear k m;intro w m k)|((with_reducible refine lE (fun w o g k K hK=>⟨rfl,?_⟩));simp[results,Tryz.results224,go_sem];refine hK _ ?_;exact⟨rfl,OO.out.nil_trans o⟩))
  ·have e1:2 ^ (j+1) / 2=2 ^ j:=by rw[Nat.pow_succ];omega
   have hpp:2 ^ (j+1)=2 ^ j+2 ^ j:=by rw[Nat.pow_succ];omega
   have hpos:=Nat.two_pow_pos j;have HS:Hid (res=if (r+2 ^ j)*(r+2 ^ j)≤n then isqF n j (r+2 ^ j) else isqF n j r):=hid (by have:=HI.out;rw[this,isqF]);rw[hpp] at hr;rw[e1];have HP:Hid (∀ pw:Nat,2 ^ j=pw→((pw:Int).tdiv 2=((2 ^ j / 2:Nat):Int))):=hid (fun pw h=>by rw[←h,Int.tdiv_eq_ediv_of_nonneg (by omega)];simp);generalize hpw:2 ^ j=pw at HS hr hpos ⊢;have r0:(pw:Int).tdiv 2=((2 ^ j / 2:Nat):Int):=HP.out pw hpw;have r0':(pw:Int) / 2=((2 ^ j / 2:Nat):Int):=by rw[←r0,Int.tdiv_eq_ediv_of_nonneg (by omega)]
   have hlt2:(2 ^ j / 2:Nat)<pw:=by rw[hpw];omega
   have hjr:r+2 ^ j≤4294967296:=by omega
   generalize hhf:2 ^ j / 2=hf at r0 r0' hlt2;have HF:=hid hhf;have r5:IntKind.i64.wrap (hf:Int)=(hf:Int):=by rw[IntKind.wrap_i64];omega
   have r1:IntKind.i64.wrap ((r:Int)+(pw:Int))=((r+pw:Nat):Int):=by rw[IntKind.wrap_i64];omega
   have HJ:=hid hjr;have HPW:=hid hpw;obtain⟨nx,hnx⟩:∃ nx,r+pw=nx:=⟨_,rfl⟩;have hnxb:nx≤4294967296:=by omega
   rw[hnx] at HS r1;have hp0:(0:Int)<(pw:Int):=by omega
   have hsqb:nx*nx≤4294967296*4294967296:=Nat.mul_le_mul hnxb hnxb;have HM:=hid (fun w'=>o_same (rmul (nx:Int) (nx:Int) w' (by omega) (by omega) (by omega) (by omega)));rw[show (nx:Int)*(nx:Int)=((nx*nx:Nat):Int) by simp] at HM;have HJN:Hid (nx+2 ^ j≤4294967296):=hid (by rw[hpw];omega);have HJR:Hid (r+2 ^ j≤4294967296):=hid (by rw[hpw];omega);generalize nx*nx=sq at HS HM hsqb;clear hnx hpp e1 hjr hpos hhf hr HI;by_cases hle:sq≤n
   focus
    rw[if_pos hle] at HS;rw[orZ_yes (by omega) (by omega),inI_yes (by omega) (by omega)] at HM;have q1:decide ((sq:Int)≤(n:Int))=true:=decide_eq_true (by omega)
   rotate_left 1
   focus
    rw[if_neg hle] at HS;by_cases hin:sq≤9223372036854775807
    focus
     rw[orZ_yes (by omega) (by omega),inI_yes (by omega) (by omega)] at HM;have q1:decide ((sq:Int)≤(n:Int))=false:=decide_eq_false (by omega)
    rotate_left 1
    focus
     rw[show inI (sq:Int)=false by unfold inI;exact decide_eq_false (by omega)] at HM;generalize orZ (sq:Int)=oz at HM
   all_goals have m:=mm0 wr [];have k:=m.out.k
   all_goals go_wp2_with (first|((with_reducible first|refine cM (HM.out _) ?_|refine wU ?_);clear k m;intro w m k)|(go_roundw;(case rel=>first|exact⟨nx,j,rfl,by rw[HF.out],by omega,HJN.out,HS,OO.out.nil_trans gO⟩|exact⟨r,j,rfl,by rw[HF.out],by omega,HJR.out,HS,OO.out.nil_trans gO⟩);(case measure=>first|(simp[intOf];done)|(simp[intOf];omega))))
theorem VRow.atn {w:World} {p:Option Addr} {n cap:Nat} {l:List Int} (hv:VRow intC 1 w p n cap l) (h0:0<l.length):∃ b off,p=some ⟨b,off,none⟩∧b<w.heap.size∧∀ k (hk:k<l.length) w',Only [] w w'→b<w'.heap.size∧w'.cell? ⟨b,off+k,none⟩=some (.int .i64 l[k]):=by
 obtain⟨b,off,hp,hb,_⟩:=hv.i64 (Only.refl [] w) h0;refine⟨b,off,hp,hb,fun k hk w' ho=>?_⟩;obtain⟨b',off',hp',hb',h⟩:=hv.i64 ho hk;obtain⟨rfl,rfl⟩:b=b'∧off=off':=by rw[hp] at hp';simpa using hp'
 exact⟨Nat.lt_of_lt_of_le hb ho.size,h⟩
theorem tot_map (l:List Cd) (k:Nat):((l.map wtC).take k).sum=totC (l.take k):=by rw[←List.map_take];rfl
theorem qApartD (a b:Int) (a0: -4611686018427387904≤a) (a1:a≤4611686018427387903) (b0: -4611686018427387904≤b) (b1:b≤4611686018427387903) (w:World) :
  Calls Tryz.prog 223 #[.int .i64 a,.int .i64 b] w fun e w'=>e=.returned (.int .i64 (a-b).natAbs)∧Only [] w w':=by
 have HE:Hid (max (a-b) (b-a)=((a-b).natAbs:Int)):=hid (by omega);have r1:IntKind.i64.wrap (a-b)=a-b:=by rw[IntKind.wrap_i64];omega
 have r2:IntKind.i64.wrap (b-a)=b-a:=by rw[IntKind.wrap_i64];omega
 rw[←HE.out];clear HE a0 a1 b0 b1;have m:=mm0 w [];have k:=m.out.k;go_enter Tryz.func223,Tryz.ntmps223
 go_wp2_with (first|((with_reducible refine wU ?_);clear k m;intro w m k)|((with_reducible refine lE (fun w o g k K hK=>⟨rfl,?_⟩));simp[results,Tryz.results223,go_sem];refine hK _ ?_;exact⟨rfl,o⟩))
theorem qSumI {w:World} {p:Option Addr} {n cap:Nat} {l:List Int} (hv:VRow intC 1 w p n cap l) (hn:n≤1000) (hb:∀ k,0≤(l.take k).sum∧(l.take k).sum≤4611686018427387904)  :
  Calls Tryz.prog 140 #[.slice p n cap] w fun e w'=>e=.returned (.int .i64 l.sum)∧Only [] w w':=by
 obtain rfl:n=l.length:=hv.len.symm;have HV:=hid hv;have HB:=hid hb;obtain⟨wo,hwo⟩:∃ wo:World,wo=w:=⟨_,rfl⟩;subst hwo;go_enter Tryz.func140,Tryz.ntmps140
 go_wp2_with fail
 go_loopw [3,4] (fun vs vi wr=>∃ k:Nat,k≤l.length∧vi=.int .i64 k∧vs=.int .i64 (l.take k).sum∧Only [] wo wr) (fun _ vi _=>l.length-(intOf vi).toNat)
 case atStart=>exact⟨0,Nat.zero_le _,rfl,rfl,Only.refl _ _⟩
 case round =>
  obtain⟨j,hk,rfl,rfl,ho⟩:=hrel;have OO:=hid ho;by_cases hlt:j<l.length
  ·obtain⟨b,off,rfl,-,HC⟩:=HV.out.atn (by omega)
   have HX:=hid (fun w' (o:Only [] wr w')=>HC j hlt w' (OO.out.nil_trans o));have HLT:=hid hlt;have hlt2:(j:Int)<(l.length:Int):=by omega
   have hs1:=HB.out j;have hs2:=HB.out (j+1);have HS:=hid (show (l.take (j+1)).sum=(l.take j).sum+l[j] by rw[take_snoc l hlt,sum_snoc];rfl);rw[HS.out] at hs2;generalize hS2:(l.take (j+1)).sum=s2 at HS;have H2:=hid hS2;generalize hS1:(l.take j).sum=s1 at HS hs1 hs2 ⊢;generalize l[j]=x at HS HX hs2;have r1:IntKind.i64.wrap (s1+x)=s1+x:=by rw[IntKind.wrap_i64];omega
   clear hs1 hs2 hS1 hS2 HC ho hlt;have m:=mm0 wr [];have k:=m.out.k;have c:=HX.out wr (Only.refl [] wr);go_wp2_with (first|((with_reducible refine wU ?_);clear k m c;intro w m k;have c:=HX.out w m.out.only)|(go_roundw;(case rel=>exact⟨j+1,HLT.out,by go_num,(by rw[H2.out,HS.out]),OO.out.nil_trans gO⟩);(case measure=>first|(simp[intOf];done)|(simp[intOf];omega))))
  ·obtain rfl:j=l.length:=by omega
   rw[List.take_length];have m:=mm0 wr [];have k:=m.out.k;go_wp2_with (first|((with_reducible refine wU ?_);clear k m;intro w m k)|((with_reducible refine lE (fun w o g k K hK=>⟨rfl,?_⟩));simp[results,Tryz.results140,go_sem];refine hK _ ?_;exact⟨rfl,OO.out.nil_trans o⟩))
theorem qWts {w:World} {p:Option Addr} {n cap:Nat} {l:List Cd} (hv:VRow cdC 5 w p n cap l) (hg:Gd l) :
  Calls Tryz.prog 138 #[.slice p n cap] w fun e w'=>PeR w (l.map wtC) e w'∧Only [] w w':=by
 obtain rfl:n=l.length:=hv.len.symm;have hlb:=hg.len;have hck:=qCheckC hv (by omega);rw[chkC_ok.2 hg] at hck;have HCK:=hid hck;have HV:=hid hv;have HG:=hid hg;obtain⟨wo,hwo⟩:∃ wo:World,wo=w:=⟨_,rfl⟩;subst hwo;go_enter Tryz.func138,Tryz.ntmps138
 go_wp2_with fail
 refine HCK.out.mono ?_;rintro e w1 ⟨rfl,ho1⟩;have O1:=hid ho1;clear ho1 HCK;go_wp2_with fail
 go_loopw [3,4] (fun vo vi wr=>∃ k:Nat,k≤l.length∧vi=.int .i64 k∧Own intC 3 1 wo.heap.size wr vo ((l.take k).map wtC)∧Only [] wo wr) (fun _ vi _=>l.length-(intOf vi).toNat)
 case atStart=>exact⟨0,Nat.zero_le _,rfl,own_nil _ _,O1.out⟩
 case round =>
  obtain⟨j,hk,rfl,hown,ho⟩:=hrel;have OW:=hid hown;have OO:=hid ho;by_cases hlt:j<l.length
  ·have HLT:=hid hlt
   have hlt2:(j:Int)<(l.length:Int):=by omega
   obtain⟨b,off,rfl,-,HC⟩:=HV.out.at (by omega);have HX:=hid (fun w' (o:Only [] wr w')=>HC j hlt w' (OO.out.nil_trans o));have hok:=HG.out.ok _ (List.getElem_mem hlt);have hbd:=okC_bd hok;have hwb:=wtC_bd hok;have HS:=hid (show (l.take (j+1)).map wtC=(l.take j).map wtC ++ [wtC l[j]] by rw[take_snoc l hlt,List.map_append];rfl);have hfl2:((l.take j).map wtC).length≤j:=by rw[List.length_map,List.length_take];omega
   generalize hs2:(l.take (j+1)).map wtC=s2 at HS;have H2:=hid hs2;generalize (l.take j).map wtC=acc at OW HS hfl2;have hwt:wtC l[j]=max 1 (1073741824 / (l[j].dist / 1000+1)):=rfl;generalize wtC l[j]=wt at HS hwb hwt;generalize l[j]=x at HX hbd hwt;obtain⟨x1,x2,di,x4,x5⟩:=x;simp only[CdF] at HX;dsimp only at hbd hwt;obtain⟨_,_,_,_,b1,b2,_⟩:=hbd;have t1:di.tdiv 1000=di / 1000:=Int.tdiv_eq_ediv_of_nonneg b1;obtain⟨y1,hy1⟩:∃ y,di / 1000=y:=⟨_,rfl⟩;have hy1b:0≤y1∧y1≤9007199254740992:=by omega
   rw[hy1] at t1 hwt;have t2:(1073741824:Int).tdiv (y1+1)=1073741824 / (y1+1):=Int.tdiv_eq_ediv_of_nonneg (by omega);have hy2b:0≤(1073741824:Int) / (y1+1)∧(1073741824:Int) / (y1+1)≤1073741824:=⟨Int.ediv_nonneg (by omega) (by omega),Int.ediv_le_self _ (by omega)⟩;obtain⟨z1,hz1⟩:∃ y,(1073741824:Int) / (y1+1)=y:=⟨_,rfl⟩;rw[hz1] at t2 hwt hy2b;have hd0:((y1+1:Int) == 0)=false:=by rw[beq_eq_false_iff_ne];omega
   have hd1:¬ (y1+1:Int)=0:=by omega
   have r1:IntKind.i64.wrap (y1+1)=y1+1:=by rw[IntKind.wrap_i64];omega
   have r2:IntKind.i64.wrap (z1)=z1:=by rw[IntKind.wrap_i64];omega
   have r3:IntKind.i64.wrap (y1)=y1:=by rw[IntKind.wrap_i64];omega
   obtain⟨pa,cap2,rfl,-⟩:=Own.vrow (enc:=intC) (s:=1) intC_len OW.out;have HWT:=hid hwt;clear hs2 ho hown HC hwt hok hwb;have m:=mm0 wr [];have k:=m.out.k;have c:=HX.out wr (Only.refl [] wr);go_wp2_with (first|((with_reducible refine wU ?_);clear k m c;intro w m k;have c:=HX.out w m.out.only)|(at_builtin;refine stop_here ?_))
   have OQ:=hid (OO.out.nil_trans m.out.only);have RQ:=hid (OW.out.kept m.out.only);refine alloc_abs (G:=fun w0=>Stop (wpList _ _ _ _ _ w0)) ?_;intro w5 hb5 ho5 hs5;have B5:=hid hb5;have O5:=hid (OQ.out.nil_trans ho5);have R5:=hid (RQ.out.kept ho5);clear hb5 ho5 hs5;refine stop_go ?_;refine wpList_append_one (w0:=wo) rfl _ _ 142 rfl 3 (.int .i64 0) 1 8 Tryz.underlying142 (by kernel_rfl) rfl (by decide) intC intC_len intC_one acc _ rfl R5.out _ wt rfl (fun j u hj=>?_) (by simp[maxLen];omega) (by omega) O5.out ?_
   focus
    rw[cell_got B5.out,←hj,HWT.out];simp[intC]
   intro v6 w6 hown6 ho6 _;have W6:=hid hown6;have O6:=hid ho6;clear hown6 ho6;go_wp2;go_roundw
   case rel=>exact⟨j+1,HLT.out,by go_num,(by rw[H2.out,HS.out];exact W6.out),O6.out⟩
   case measure=>first|(have:=HLT.out;simp[intOf];done)|(have:=HLT.out;simp[intOf];omega)
  ·obtain rfl:j=l.length:=by omega
   rw[List.take_length] at hown;have HN:=hid hown;have m:=mm0 wr [];have k:=m.out.k;go_wp2_with (first|((with_reducible refine wU ?_);clear k m;intro w m k)|((with_reducible refine lE (fun w o g k K hK=>⟨rfl,?_⟩));simp[results,Tryz.results138,go_sem];refine hK _ ?_;exact⟨⟨_,rfl,HN.out.kept o⟩,OO.out.nil_trans o⟩))
theorem qMeanC {w:World} {p:Option Addr} {n cap:Nat} {l:List Cd} (hv:VRow cdC 5 w p n cap l) (hg:Gd l) (h0:0<l.length) :
  Calls Tryz.prog 72 #[.slice p n cap] w fun e w'=>e=.returned (.tuple #[.int .i64 (meanC l),.int .i64 0])∧Only [] w w':=by
 obtain rfl:n=l.length:=hv.len.symm;have hlb:=hg.len;have HVL:=hid hv;have HG:=hid hg;have HT1:Hid (0<totC l):=hid (by have:=(tot_bd hg.ok).1;omega);have HT2:Hid (totC l≤12884901888):=hid (by have:=(tot_bd hg.ok).2.1;omega);have HTK:=hid (fun k=>tot_take hg.ok k);have HT3:=hid (tot_bd hg.ok).2.2;obtain⟨-,-,f0,f1,-,-⟩:=mean_bd hg h0;have hck:=qCheckC hv (by omega);rw[chkC_ok.2 hg] at hck;have HCK:=hid hck;have HW:=hid (fun w' (o:Only [] w w')=>qWts (hv.kept o) hg);have HVB:=hid (fun c (h:okC c=true)=>offV_bd (x:=(l.headD default).off) h f0 f1);have HWB:=hid (ws_take (val:=offV (l.headD default).off) (B:=9007199254740992) (by decide) h0 (fun c hc=>⟨hg.ok c hc,HVB.out c (hg.ok c hc)⟩));have he:l.headD default=l[0]:=by cases l with|nil=>simp at h0|cons=>rfl
 obtain⟨res,HE⟩:∃ zz,Hid (meanC l=zz):=⟨_,hid rfl⟩;rw[HE.out];unfold meanC at HE;rw[he] at HE HVB HWB f0 f1;have hne:((l.length:Int) == 0)=false:=by rw[beq_eq_false_iff_ne];omega
 have hl0:(0:Int)<(l.length:Int):=by omega
 clear he hck;obtain⟨wo,hwo⟩:∃ wo:World,wo=w:=⟨_,rfl⟩;subst hwo;have m:=mm0 wo [];have k:=m.out.k;go_enter Tryz.func72,Tryz.ntmps72
 go_wp2_with fail
 refine HCK.out.mono ?_;rintro e w1 ⟨rfl,ho1⟩;have O1:=hid ho1;clear k m HCK;have m:=mm0 w1 [];have k:=m.out.k;go_wp2_with ((with_reducible first|refine cU ?_|refine wU ?_);clear k m;intro w m k)
 refine (HW.out _ (O1.out.nil_trans m.out.only)).mono ?_;rintro e w2 ⟨⟨v2,rfl,hown⟩,ho2⟩;obtain⟨p2,cap2,rfl,hv2⟩:=Own.vrow (enc:=intC) (s:=1) intC_len hown;have O2:=hid ((O1.out.nil_trans m.out.only).nil_trans ho2);obtain⟨b2,off2,rfl,-,HC2⟩:=hv2.atn (by rw[List.length_map];exact h0);have HSM:=hid (fun w' (o:Only [] w2 w')=>qSumI (hv2.kept o) (by rw[List.length_map];omega) (fun k=>by rw[tot_map];have:=HTK.out k;have:=HT2.out;omega));simp only[List.length_map,show (l.map wtC).sum=totC l from rfl] at HSM;have HWX:=hid (fun k (hk:k<l.length) w' (o:Only [] w2 w')=>show b2<w'.heap.size∧w'.cell? ⟨b2,off2+k,none⟩=some (.int .i64 (wtC l[k])) by have:=HC2 k (by rw[List.length_map];exact hk) w' o;rwa [List.getElem_map] at this);rw[List.length_map];obtain⟨b,off,rfl,-,HC⟩:=HVL.out.at h0;have HCX:=hid (fun q (hq:q<l.length) w' (o:Only [] w2 w')=>HC q hq w' (O2.out.nil_trans o));clear k m hown ho2 hv2 HC HC2 hv;obtain⟨wq,hwq⟩:∃ wq:World,wq=w2:=⟨_,rfl⟩;subst hwq;have m:=mm0 wq [];have k:=m.out.k;have c:=HCX.out 0 h0 wq (Only.refl _ _);simp only[Nat.zero_mul,Nat.add_zero] at c;clear m k;generalize hz:l[0]=z0 at HE HVB HWB f0 f1 c;have HZ:=hid hz;clear hz;obtain⟨z1,zo,z3,z4,z5⟩:=z0;dsimp only at HE HVB HWB f0 f1 c;have m:=mm0 wq [];have k:=m.out.k;have HX:=hid (fun w' (o:Only [] wq w')=>HCX.out 0 h0 w' o);simp only[Nat.zero_mul,Nat.add_zero,HZ.out] at HX;go_wp2_with ((with_reducible refine wU ?_);clear k m c;intro w m k;have c:=HX.out w m.out.only)
 clear k m c HX;go_loopw [6,7] (fun vs vi wr=>∃ j:Nat,j≤l.length∧vi=.int .i64 j∧vs=.int .i64 (zo+ws (offV zo) (totC l) (l.take j))∧Only [] wq wr) (fun _ vi _=>l.length-(intOf vi).toNat)
 case atStart=>exact⟨0,Nat.zero_le _,rfl,by simp[ws],Only.refl _ _⟩
 case round =>
  obtain⟨j,hk,rfl,rfl,ho⟩:=hrel;have OO:=hid ho;by_cases hlt:j<l.length
  ·have HLT:=hid hlt
   have hlt2:(j:Int)<(l.length:Int):=by omega
   have HX:=hid (fun w' (o:Only [] wr w')=>And.intro (HCX.out j hlt w' (OO.out.nil_trans o)) (And.intro (HCX.out 0 (by omega) w' (OO.out.nil_trans o)) (HWX.out j hlt w' (OO.out.nil_trans o))));have HSM2:=hid (fun w' (o:Only [] wr w')=>HSM.out w' (OO.out.nil_trans o));have hxo:=HG.out.ok _ (List.getElem_mem hlt);have hxb:=okC_bd hxo;have hwb:=wtC_bd hxo;have hvb:=HVB.out l[j] hxo;have hwt:wtC l[j]≤totC l:=HT3.out _ (List.getElem_mem hlt);have hpb:=HWB.out j;have hpb2:=HWB.out (j+1);have HS:=hid (show ws (offV zo) (totC l) (l.take (j+1))=ws (offV zo) (totC l) (l.take j)+wtC l[j]*offV zo l[j] / totC l by rw[take_snoc l hlt,ws_snoc];rfl);rw[HS.out] at hpb2;have HMD:=hid (fun w'=>o_same (rmuldiv (wtC l[j]) (offV zo l[j]) (totC l) w' (by omega) (by omega) (by omega) (by omega) HT1.out (by have:=HT2.out;omega)));rw[orZ_yes (by omega) (by omega)] at HMD;generalize inI (wtC l[j]*offV zo l[j] / totC l)=okb at HMD;generalize hs2:ws (offV zo) (totC l) (l.take (j+1))=s2 at HS;have H2:=hid hs2;generalize ws (offV zo) (totC l) (l.take j)=s1 at HS hpb hpb2 ⊢;generalize wtC l[j]*offV zo l[j] / totC l=pr at HS HMD hpb2;generalize wtC l[j]=wt at HX HMD;generalize l[j]=x at HX HMD hxb hvb;obtain⟨x1,x2,x3,x4,x5⟩:=x;simp only[Nat.zero_mul,Nat.add_zero,CdF,HZ.out] at HX;dsimp only at hxb;have r1:IntKind.i64.wrap (x2-zo)=x2-zo:=by rw[IntKind.wrap_i64];omega
   have r2:IntKind.i64.wrap (zo+s1+pr)=zo+s1+pr:=by rw[IntKind.wrap_i64];omega
   simp only[offV] at HMD;clear hs2 hk ho hlt hxo hwb hpb hpb2 hwt hvb hxb f0 f1;have m:=mm0 wr [];have k:=m.out.k;have c:=HX.out wr (Only.refl [] wr);go_wp2_with (first|((with_reducible first|refine cM (HSM2.out _ m.out.only) ?_|refine cM (HMD.out _) ?_|refine wU ?_);clear k m c;intro w m k;have c:=HX.out w m.out.only)|((with_reducible refine rG (id:=11) [0,1,2,3,4,5,6,7,8,9,10,11,12,13,14,15,16,17,18,19,20,21] [] (by kernel_rfl) (by kernel_rfl) ?_);simp only[pick,List.map_cons,List.map_nil,List.getD_cons_succ,List.getD_cons_zero];(repeat' (first|go_big_quiet_step (with_reducible first|exact gX (HSM2.out _ gOP)|exact gX (HMD.out _))|(refine wpQuiet_step (fun K hK=>?_);go_simp;(first|(refine hK _ ?_;clear hK K)|(split<;>(refine hK _ ?_;clear hK K))))));all_goals (refine wpQuiet_nil ?_;clear k m c;intro w m k;have c:=HX.out w m.out.only))|(go_roundw;(case rel=>exact⟨j+1,HLT.out,by go_num,(by rw[H2.out,HS.out,←Int.add_assoc]),OO.out.nil_trans gO⟩);(case measure=>first|(simp[intOf];done)|(simp[intOf];omega))))
  ·obtain rfl:j=l.length:=by omega
   rw[List.take_length];clear hlt hk ho;have m:=mm0 wr [];have k:=m.out.k;obtain rfl:=HE.out;go_wp2_with (first|((with_reducible refine wU ?_);clear k m;intro w m k)|((with_reducible refine lE (fun w o g k K hK=>⟨rfl,?_⟩));simp[results,Tryz.results72,go_sem];refine hK _ ?_;exact⟨rfl,O2.out.nil_trans (OO.out.nil_trans o)⟩))
theorem qJitC {w:World} {p:Option Addr} {n cap:Nat} {l:List Cd} (hv:VRow cdC 5 w p n cap l) (hg:Gd l) (h0:0<l.length) :
  Calls Tryz.prog 142 #[.slice p n cap] w fun e w'=>e=.returned (.int .i64 (jitC l))∧Only [] w w':=by
 obtain rfl:n=l.length:=hv.len.symm;have hlb:=hg.len;have HVL:=hid hv;have HG:=hid hg;have HT1:Hid (0<totC l):=hid (by have:=(tot_bd hg.ok).1;omega);have HT2:Hid (totC l≤12884901888):=hid (by have:=(tot_bd hg.ok).2.1;omega);have HTK:=hid (fun k=>tot_take hg.ok k);have HT3:=hid (tot_bd hg.ok).2.2;obtain⟨m1,m2,_⟩:=mean_bd hg h0;obtain⟨_,_,hj3,hj4⟩:=jit_bd hg h0;have hnn:=ws_nn (val:=sqV (meanC l)) (tot:=totC l) (by have:=(tot_bd hg.ok).1;omega) (l:=l) (fun c hc=>⟨hg.ok c hc,by unfold sqV;omega⟩);have HM:=hid (qMeanC hv hg h0);have HW:=hid (fun w' (o:Only [] w w')=>qWts (hv.kept o) hg);obtain⟨res,HE⟩:∃ zz,Hid (jitC l=zz):=⟨_,hid rfl⟩;rw[HE.out];unfold jitC at HE;generalize meanC l=mx at HM HE m1 m2 hj3 hj4 hnn;have HVB:=hid (fun c (h:okC c=true)=>sqV_bd h m1 m2);have HWB:=hid (ws_take (val:=sqV mx) (B:=1152921504606846976) (by decide) h0 (fun c hc=>⟨hg.ok c hc,HVB.out c (hg.ok c hc)⟩));obtain⟨q,hq⟩:∃ q:Nat,ws (sqV mx) (totC l) l=(q:Int):=⟨(ws (sqV mx) (totC l) l).toNat,by omega⟩;rw[hq,Int.toNat_natCast] at HE;have HQ:=hid hq;have HS:=hid (fun w=>qSqrt q (by omega) w);obtain⟨wo,hwo⟩:∃ wo:World,wo=w:=⟨_,rfl⟩;subst hwo;have m:=mm0 wo [];have k:=m.out.k;go_enter Tryz.func142,Tryz.ntmps142
 go_wp2_with fail
 refine HM.out.mono ?_;rintro e w1 ⟨rfl,ho1⟩;have O1:=hid ho1;clear k m HM;have m:=mm0 w1 [];have k:=m.out.k;go_wp2_with ((with_reducible first|refine cU ?_|refine wU ?_);clear k m;intro w m k)
 refine (HW.out _ (O1.out.nil_trans m.out.only)).mono ?_;rintro e w2 ⟨⟨v2,rfl,hown⟩,ho2⟩;obtain⟨p2,cap2,rfl,hv2⟩:=Own.vrow (enc:=intC) (s:=1) intC_len hown;have O2:=hid ((O1.out.nil_trans m.out.only).nil_trans ho2);obtain⟨b2,off2,rfl,-,HC2⟩:=hv2.atn (by rw[List.length_map];exact h0);have HSM:=hid (fun w' (o:Only [] w2 w')=>qSumI (hv2.kept o) (by rw[List.length_map];omega) (fun k=>by rw[tot_map];have:=HTK.out k;have:=HT2.out;omega));simp only[List.length_map,show (l.map wtC).sum=totC l from rfl] at HSM;have HWX:=hid (fun k (hk:k<l.length) w' (o:Only [] w2 w')=>show b2<w'.heap.size∧w'.cell? ⟨b2,off2+k,none⟩=some (.int .i64 (wtC l[k])) by have:=HC2 k (by rw[List.length_map];exact hk) w' o;rwa [List.getElem_map] at this);rw[List.length_map];obtain⟨b,off,rfl,-,HC⟩:=HVL.out.at h0;have HCX:=hid (fun q (hq:q<l.length) w' (o:Only [] w2 w')=>HC q hq w' (O2.out.nil_trans o));clear k m hown ho2 hv2 HC HC2 hv;obtain⟨wq,hwq⟩:∃ wq:World,wq=w2:=⟨_,rfl⟩;subst hwq;go_wp2_with fail
 go_loopw [6,7] (fun vs vi wr=>∃ j:Nat,j≤l.length∧vi=.int .i64 j∧vs=.int .i64 (ws (sqV mx) (totC l) (l.take j))∧Only [] wq wr) (fun _ vi _=>l.length-(intOf vi).toNat)
 case atStart=>exact⟨0,Nat.zero_le _,rfl,by simp[ws],Only.refl _ _⟩
 case round =>
  obtain⟨j,hk,rfl,rfl,ho⟩:=hrel;have OO:=hid ho;by_cases hlt:j<l.length
  ·have HLT:=hid hlt
   have hlt2:(j:Int)<(l.length:Int):=by omega
   have HX:=hid (fun w' (o:Only [] wr w')=>And.intro (HCX.out j hlt w' (OO.out.nil_trans o)) (And.intro (HCX.out 0 (by omega) w' (OO.out.nil_trans o)) (HWX.out j hlt w' (OO.out.nil_trans o))));have HSM2:=hid (fun w' (o:Only [] wr w')=>HSM.out w' (OO.out.nil_trans o));have hxo:=HG.out.ok _ (List.getElem_mem hlt);have hxb:=okC_bd hxo;have hwb:=wtC_bd hxo;have hvb:=HVB.out l[j] hxo;have hwt:wtC l[j]≤totC l:=HT3.out _ (List.getElem_mem hlt);have hpb:=HWB.out j;have hpb2:=HWB.out (j+1);have HS:=hid (show ws (sqV mx) (totC l) (l.take (j+1))=ws (sqV mx) (totC l) (l.take j)+wtC l[j]*sqV mx l[j] / totC l by rw[take_snoc l hlt,ws_snoc];rfl);rw[HS.out] at hpb2;have HMD:=hid (fun w'=>o_same (rmuldiv (wtC l[j]) (sqV mx l[j]) (totC l) w' (by omega) (by omega) (by omega) (by omega) HT1.out (by have:=HT2.out;omega)));rw[orZ_yes (by omega) (by omega)] at HMD;generalize inI (wtC l[j]*sqV mx l[j] / totC l)=okb at HMD;generalize hs2:ws (sqV mx) (totC l) (l.take (j+1))=s2 at HS;have H2:=hid hs2;generalize ws (sqV mx) (totC l) (l.take j)=s1 at HS hpb hpb2 ⊢;generalize wtC l[j]*sqV mx l[j] / totC l=pr at HS HMD hpb2;generalize wtC l[j]=wt at HX HMD;generalize l[j]=x at HX HMD hxb hvb;obtain⟨x1,x2,x3,x4,x5⟩:=x;simp only[Nat.zero_mul,Nat.add_zero,CdF] at HX;dsimp only at hxb;have HA:=hid (fun w'=>qApartD x2 mx (by omega) (by omega) (by omega) (by omega) w');have hsq:=min_sq x2 mx;have hsb:=sqD_bd x2 mx;simp only[sqV] at HMD;obtain⟨d,hd⟩:∃ d,min ((x2-mx).natAbs:Int) 1073741824=d:=⟨_,rfl⟩;rw[hd] at hsq;have r1:IntKind.i64.wrap (d*d)=(sqD x2 mx:Int):=by rw[IntKind.wrap_i64];omega
   have r1':wrap64 (d*d)=(sqD x2 mx:Int):=by unfold wrap64;omega
   have r2:IntKind.i64.wrap (s1+pr)=s1+pr:=by rw[IntKind.wrap_i64];omega
   clear hsq hsb;clear hs2 hk ho hlt hxo hwb hpb hpb2 hwt hvb hxb m1 m2 hj3 hj4 hnn hq;have m:=mm0 wr [];have k:=m.out.k;have c:=HX.out wr (Only.refl [] wr);go_wp2_with (first|((with_reducible first|refine cM (HSM2.out _ m.out.only) ?_|refine cM (HMD.out _) ?_|refine cM (HA.out _) ?_|refine wU ?_);clear k m c;intro w m k;have c:=HX.out w m.out.only)|((with_reducible refine rG (id:=10) [0,1,2,3,4,5,6,7,8,9,10,11,12,13,14] [] (by kernel_rfl) (by kernel_rfl) ?_);simp only[pick,List.map_cons,List.map_nil,List.getD_cons_succ,List.getD_cons_zero];(repeat' (first|go_big_quiet_step (with_reducible first|exact gX (HSM2.out _ gOP)|exact gX (HMD.out _)|exact gX (HA.out _))|(refine wpQuiet_step (fun K hK=>?_);go_simp;(first|(refine hK _ ?_;clear hK K)|(split<;>(refine hK _ ?_;clear hK K))))));all_goals (refine wpQuiet_nil ?_;clear k m c;intro w m k;have c:=HX.out w m.out.only))|(go_roundw;(case rel=>exact⟨j+1,HLT.out,by go_num,(by rw[H2.out,HS.out]),OO.out.nil_trans gO⟩);(case measure=>first|(simp[intOf];done)|(simp[intOf];omega))))
  ·obtain rfl:j=l.length:=by omega
   rw[List.take_length];clear hlt hk ho;rw[HQ.out];have m:=mm0 wr [];have k:=m.out.k;obtain rfl:=HE.out;go_wp2_with (first|((with_reducible first|refine cM (HS.out _) ?_|refine wU ?_);clear k m;intro w m k)|((with_reducible refine lE (fun w o g k K hK=>⟨rfl,?_⟩));simp[results,Tryz.results142,go_sem];refine hK _ ?_;exact⟨rfl,O2.out.nil_trans (OO.out.nil_trans o)⟩))
end
section
open Go.Lib (hid)
set_option maxRecDepth 100000
set_option maxHeartbeats 16000000
open Go.RowKit Go.Sort
theorem qBefC (x y:Cd) (w:World) :
  Calls Tryz.prog 264 #[cdV x,cdV y] w fun e w'=>e=.returned (.bool (ltOf cfC x y))∧Only [] w w':=by
 have HE:Hid ((if x.str≠y.str then decide (x.str<y.str) else if x.dist≠y.dist then decide (x.dist<y.dist) else decide (x.id<y.id))=ltOf cfC x y):=hid (by
  rw[cfC_lt];by_cases h1:x.str=y.str
  ·rw[if_neg (by simpa using h1)]
   by_cases h2:x.dist=y.dist
   ·rw[if_neg (by simpa using h2)];simp[h1,h2]
   ·rw[if_pos h2];simp[h1,h2]
  ·rw[if_pos h1];simp[h1])
 generalize ltOf cfC x y=res at HE ⊢;obtain⟨a1,a2,a3,a4,a5⟩:=x;obtain⟨b1,b2,b3,b4,b5⟩:=y;unfold cdV;dsimp only at HE ⊢;by_cases h1:a5≠b5
 focus
  rw[if_pos h1] at HE
 rotate_left 1
 focus
  rw[if_neg h1] at HE;have h1:a5=b5:=by simpa using h1
  by_cases h2:a3≠b3
  focus
   rw[if_pos h2] at HE
  rotate_left 1
  focus
   rw[if_neg h2] at HE;have h2:a3=b3:=by simpa using h2
 all_goals
  obtain rfl:=HE.out;clear HE;have m:=mm0 w [];have k:=m.out.k;go_enter Tryz.func264,Tryz.ntmps264
  go_wp2_with (first|((with_reducible refine wU ?_);clear k m;intro w m k)|((with_reducible refine lE (fun w o g k K hK=>⟨rfl,?_⟩));simp[results,Tryz.results264,go_sem];refine hK _ ?_;exact⟨rfl,o⟩))
theorem qWithC {w:World} {p:Option Addr} {n cap i:Nat} {l:List Cd} (hv:VRow cdC 5 w p n cap l) (hi:i<l.length) (hn:n≤1000) :
  Calls Tryz.prog 214 #[.slice p n cap,.int .i64 (i:Nat)] w fun e w'=>(∃ v,e=.returned v∧Own cdC 146 5 w.heap.size w' v (l.take i ++ l.drop (i+1)))∧Only [] w w':=by
 obtain rfl:n=l.length:=hv.len.symm;have HV:=hid hv;obtain⟨b,off,rfl,-,-⟩:=hv.at (by omega);have hlc:=hv.le;have hic:i≤cap:=by omega
 have q1:(i:Int)≤(i:Int)+1:=by omega
 have q2:0≤(i:Int)+1:=by omega
 have q3:(i:Int)+1≤(l.length:Int):=by omega
 have r1:IntKind.i64.wrap ((i:Int)+1)=(i:Int)+1:=by rw[IntKind.wrap_i64];omega
 obtain⟨wo,hwo⟩:∃ wo:World,wo=w:=⟨_,rfl⟩;subst hwo;have m:=mm0 wo [];have k:=m.out.k;go_enter Tryz.func214,Tryz.ntmps214
 go_wp2_with fail
 obtain⟨wq,hwq⟩:∃ wq:World,wq=wo:=⟨_,rfl⟩;subst hwq;have OQ:=hid (Only.refl [] wq);have HVQ:=hid (HV.out.kept OQ.out);have VT:=hid (HVQ.out.take i (by omega));by_cases hcj:cap=i+1
 focus
  have e5:l.length=i+1:=by omega
  have VD:=hid (show VRow cdC 5 wq (some ⟨b,off,none⟩) 0 0 (l.drop (i+1)) from by rw[List.drop_of_length_le (by omega)];exact⟨rfl,Nat.le_refl _,Nat.zero_le _,by simp,by simp⟩);subst hcj
 rotate_left
 focus
  have VD:=hid (HVQ.out.drop (i+1) (by omega));have hc2:¬ cap≤i+1:=by omega
 all_goals
  refine rY (id:=1) [1,2,3,5,6,7,8] [] [] 4 (by kernel_rfl) (by kernel_rfl) ?_;simp only[pick,List.map_cons,List.map_nil,List.getD_cons_succ,List.getD_cons_zero]
  (repeat (first|(refine wpCalmG_step (fun K hK=>?_);go_simp;refine hK _ ?_;clear hK K)));refine wpCalmG_nil ?_;(repeat (refine wpCalm_step (fun K hK=>?_);go_simp;refine hK _ ?_;clear hK K));refine wpCalm_nil ?_
  intro w0 o2 _ _;have OW:=hid o2;clear o2;refine yN [0] (by kernel_rfl) ?_;simp only[List.mem_cons,List.not_mem_nil,or_false,forall_eq];refine wpOp_one rfl ?_;go_wp2;simp only[nrm];refine⟨.inr (OW.out.alloc _),fun w1 o2=>?_⟩;have R0:=hid ((row_lit (enc:=cdC) (s:=5) (e:=146) (w:=w0) (l:=[]) cdC_len rfl (by simp[maxLen])).kept o2 (by simp));have HB0:Hid (wq.heap.size≤w0.heap.size):=hid OW.out.size;replace OW:=hid ((OW.out.alloc _).nil_trans o2);clear o2;generalize w0.heap.size=g0 at *;refine yN [4] (by kernel_rfl) ?_;simp only[List.mem_cons,List.not_mem_nil,or_false,forall_eq];have D0:Own cdC 146 5 wq.heap.size w1 (.slice (some ⟨g0,0,none⟩) (List.length (α:=Cd) []) (List.length (α:=Cd) [])) []:=.inr ⟨_,_,rfl,HB0.out,R0.out⟩;refine wpOp_one rfl ?_;refine wpList_app rfl _ _ 101 rfl 146 cdZ 5 40 Tryz.underlying101 cd_info rfl (by decide) cdC cdC_len cdC_one wq.heap.size OW.out.size [] _ (by rfl) D0 _ _ _ (l.take i) (by rfl) (VT.out.kept OW.out) (by first|(simp[maxLen];done)|(simp[maxLen];omega)) (by first|(simp;done)|(simp;omega)) ?_;intro vv4 v3 hown ho;have hoB:=OW.out.trans ho (fun x hx=>.inr (D0.block_ge x hx));go_wp2;simp only[nrm];refine⟨.inr hoB,fun w2 o2=>?_⟩;have R4:=hid (hown.kept o2);replace OW:=hid (hoB.nil_trans o2);clear ho hoB hown o2;refine yN [9] (by kernel_rfl) ?_;simp only[List.mem_cons,List.not_mem_nil,or_false,forall_eq];refine wpOp_one rfl ?_;refine wpList_app rfl _ _ 101 rfl 146 cdZ 5 40 Tryz.underlying101 cd_info rfl (by decide) cdC cdC_len cdC_one wq.heap.size OW.out.size ([] ++ l.take i) _ (by rfl) R4.out _ _ _ (l.drop (i+1)) (by rfl) (VD.out.kept OW.out) (by first|(simp[maxLen];done)|(simp[maxLen];omega)) (by first|(simp;done)|(simp;omega)) ?_;intro vv9 v3 hown ho;have hoB:=OW.out.trans ho (fun x hx=>.inr (R4.out.block_ge x hx));go_wp2;simp only[nrm];refine⟨.inr hoB,fun w3 o2=>?_⟩;have R9:=hid (hown.kept o2);replace OW:=hid (hoB.nil_trans o2);clear ho hoB hown o2;refine yN [10] (by kernel_rfl) ?_;simp only[List.mem_cons,List.not_mem_nil,or_false,forall_eq];refine wpOp_one rfl ?_;go_wp2;simp only[nrm];refine⟨.inr OW.out,fun w4 o2=>?_⟩;replace OW:=hid (OW.out.nil_trans o2);replace R9:=hid (R9.out.kept o2);clear o2;unfold wpY
 all_goals
  have HN:=R9.out;rw[List.nil_append] at HN;have HN:=hid HN;have OE:=hid (OQ.out.nil_trans OW.out);have hsz:=OQ.out.size;go_wp2;go_ret
  exact⟨⟨_,rfl,HN.out.base hsz⟩,OE.out⟩
theorem ordC_step {l cur:List Cd} (hg:Gd l) (hs:cur.Sublist l) {k:Nat} (hk:k<cur.length) (hm:∀ j (hj:j<cur.length),j≠k→ltOf cfC cur[k] cur[j]=true):ordC cur=cur[k]::ordC (cur.take k ++ cur.drop (k+1)):=ordC_min ((hs.map Cd.id).nodup hg.nd) hk hm
theorem ids_ne {l:List Cd} (hn:(l.map Cd.id).Nodup) {i k:Nat} (hi:i<l.length) (hk:k<l.length) (h:i≠k):l[i].id≠l[k].id:=by
 have hp:=List.pairwise_iff_getElem.1 hn;rcases Nat.lt_or_gt_of_ne h with h|h
 ·have:=hp i k (by rw[List.length_map];exact hi) (by rw[List.length_map];exact hk) h
  rwa [List.getElem_map,List.getElem_map] at this
 ·have:=hp k i (by rw[List.length_map];exact hk) (by rw[List.length_map];exact hi) h
  rw[List.getElem_map,List.getElem_map] at this;exact fun e=>this e.symm
theorem own_block {w:World} {B:Nat} {v:Value} {l:List Cd} (h:Own cdC 146 5 B w v l):∀ x∈v.ownBlock.toList,x<w.heap.size:=by
 intro x hx;rcases h with ⟨rfl,-⟩|⟨g,cc,rfl,-,hr⟩
 ·simp[Value.ownBlock] at hx
 ·simp[Value.ownBlock] at hx
  subst hx;exact hr.lt
theorem qOrdC {w:World} {p:Option Addr} {n cap:Nat} {l:List Cd} (hv:VRow cdC 5 w p n cap l) (hg:Gd l) :
  Calls Tryz.prog 212 #[.slice p n cap] w fun e w'=>(∃ v,e=.returned v∧Own cdC 146 5 w.heap.size w' v (ordC l))∧Only [] w w':=by
 obtain rfl:n=l.length:=hv.len.symm;have hlb:=hg.len;have hck:=qCheckC hv (by omega);rw[chkC_ok.2 hg] at hck;have HCK:=hid hck;have HV:=hid hv;have HG:=hid hg;obtain⟨wo,hwo⟩:∃ wo:World,wo=w:=⟨_,rfl⟩;subst hwo;go_enter Tryz.func212,Tryz.ntmps212
 go_wp2_with fail
 refine HCK.out.mono ?_;rintro e w1 ⟨rfl,ho1⟩;have O1:=hid ho1;clear ho1 HCK;go_wp2_with fail
 go_loopw [0,3] (fun vl vo wr=>∃ (p':Option Addr) (cap':Nat) (cur res:List Cd),vl=.slice p' cur.length cap'∧VRow cdC 5 wr p' cur.length cap' cur∧Own cdC 146 5 wo.heap.size wr vo res∧res ++ ordC cur=ordC l∧cur.Sublist l∧(∀ a,p'=some a→a.block ∉ vo.ownBlock.toList)∧Only [] wo wr) (fun vl _ _=>sliceLen vl)
 case atStart=>exact⟨p,cap,l,[],rfl,HV.out.kept O1.out,own_nil _ _,rfl,List.Sublist.refl _,by simp[Value.ownBlock],O1.out⟩
 case round =>
  obtain⟨p',cap',cur,res,rfl,hvc,hown,hres,hsub,hpb,ho⟩:=hrel;have OO:=hid ho;have OW:=hid hown;have HVC:=hid hvc;have HSUB:=hid hsub;have HPB:=hid hpb;by_cases h0:0<cur.length
  ·obtain⟨b,off,rfl,-,HC⟩:=hvc.at h0
   have HCX:=hid HC;have hcl:cur.length≤12:=Nat.le_trans hsub.length_le hlb;have hrl:res.length+cur.length=l.length:=by have:=congrArg List.length hres;rw[List.length_append,(ordC_perm _).length_eq,(ordC_perm _).length_eq] at this;exact this
   have HRES:=hid hres;have h0i:(0:Int)<(cur.length:Int):=by omega
   clear ho hown hvc hsub hres hpb HC;obtain⟨wl,hwl⟩:∃ wl:World,wl=wr:=⟨_,rfl⟩;subst hwl;go_wp2_with fail
   go_loopw [4,5] (fun vk vi wr=>∃ k i:Nat,vk=.int .i64 k∧vi=.int .i64 i∧k<i∧i≤cur.length∧(∀ (hk:k<cur.length) j (hj:j<cur.length),j<i→j≠k→ltOf cfC cur[k] cur[j]=true)∧Only [] wl wr) (fun _ vi _=>cur.length-(intOf vi).toNat)
   case atStart=>exact⟨0,1,rfl,rfl,by omega,h0,fun _ j _ h1 h2=>by omega,Only.refl _ _⟩
   case round =>
    obtain⟨k0,i,rfl,rfl,hki,hi,hmin,ho⟩:=hrel;have O2:=hid ho;have HM:=hid hmin;clear ho hmin;have hkl:k0<cur.length:=by omega
    by_cases hlt:i<cur.length
    ·have hlt2:(i:Int)<(cur.length:Int):=by omega
     have HLT:=hid hlt;have HKI:=hid hki;have HX:=hid (fun w' (o:Only [] wr w')=>And.intro (HCX.out i hlt w' (O2.out.nil_trans o)) (HCX.out k0 hkl w' (O2.out.nil_trans o)));have HBF:=hid (fun w'=>qBefC cur[i] cur[k0] w');have hne:=ids_ne ((HSUB.out.map Cd.id).nodup HG.out.nd) hlt hkl (by omega)
     have HY:=hid (show ltOf cfC cur[i] cur[k0]=true→∀ (_:i<cur.length) j (hj:j<cur.length),j<i+1→j≠i→ltOf cfC cur[i] cur[j]=true from fun h _ j hj h1 h2=>by
      by_cases e:j=k0
      ·subst e;exact h
      ·exact cfC_swo.trans _ _ _ h (HM.out hkl j hj (by omega) e))
     have HN:=hid (show ltOf cfC cur[i] cur[k0]=false→∀ (_:k0<cur.length) j (hj:j<cur.length),j<i+1→j≠k0→ltOf cfC cur[k0] cur[j]=true from fun h _ j hj h1 h2=>by
      by_cases e:j=i
      ·subst e
       rcases cfC_tot hne with h3|h3
       ·exact absurd (h3.symm.trans h) (by decide)
       ·exact h3
      ·exact HM.out hkl j hj (by omega) h2)
     generalize ltOf cfC cur[i] cur[k0]=bt at HBF HY HN;generalize cur[i]=x at HX HBF;generalize cur[k0]=y at HX HBF;obtain⟨x1,x2,x3,x4,x5⟩:=x;obtain⟨y1,y2,y3,y4,y5⟩:=y;simp only[CdF] at HX;unfold cdV at HBF;dsimp only at HBF;clear hlt hki hne hi
     cases bt
     all_goals have m:=mm0 wr [];have k:=m.out.k;have c:=HX.out wr (Only.refl [] wr)
     all_goals go_wp2_with (first|((with_reducible first|refine cM (HBF.out _) ?_|refine wU ?_);clear k m c;intro w m k;have c:=HX.out w m.out.only)|((with_reducible refine rG (id:=9) [0,1,2,3,4,5,6,7,8] [] (by kernel_rfl) (by kernel_rfl) ?_);simp only[pick,List.map_cons,List.map_nil,List.getD_cons_succ,List.getD_cons_zero];(repeat' (first|go_big_quiet_step (with_reducible first|exact gX (HBF.out _))|(refine wpQuiet_step (fun K hK=>?_);go_simp;(first|(refine hK _ ?_;clear hK K)|(split<;>(refine hK _ ?_;clear hK K))))));all_goals (refine wpQuiet_nil ?_;clear k m c;intro w m k;have c:=HX.out w m.out.only))|(go_roundw;(case rel=>first|exact⟨i,i+1,rfl,by go_num,by omega,HLT.out,HY.out rfl,O2.out.nil_trans gO⟩|exact⟨k0,i+1,rfl,by go_num,Nat.lt_succ_of_lt HKI.out,HLT.out,HN.out rfl,O2.out.nil_trans gO⟩);(case measure=>first|(simp[intOf];done)|(simp[intOf];omega))))
    ·obtain rfl:i=cur.length:=by omega
     have HORD:=hid (ordC_step HG.out HSUB.out hkl (fun j hj hne=>HM.out hkl j hj hj hne));have HX:=hid (fun w' (o:Only [] wr w')=>HCX.out k0 hkl w' (O2.out.nil_trans o));have HOR:=hid (fun x (e:ordC cur=x)=>(show res ++ x=ordC l by rw[←e];exact HRES.out));have hor:=HOR.out _ HORD.out;have HCL:=hid hkl;have HSN:=hid (show (cur.take k0 ++ cur.drop (k0+1)).Sublist l from by rw[←List.eraseIdx_eq_take_drop_succ];exact (List.eraseIdx_sublist _ _).trans HSUB.out);have hln2:(cur.take k0 ++ cur.drop (k0+1)).length<cur.length:=by rw[List.length_append,List.length_take,List.length_drop];omega
     have HLN:=hid hln2;have HVW:=hid (HVC.out.kept O2.out);have HWI:=hid (fun w' (h:VRow cdC 5 w' (some ⟨b,off,none⟩) cur.length cap' cur)=>qWithC h hkl (by omega));generalize cur[k0]=x at HX hor;generalize cur.take k0 ++ cur.drop (k0+1)=nx at hor HSN HLN HWI hln2;have HOR2:=hid hor;clear HORD HOR hor HRES HM hln2;obtain⟨x1,x2,x3,x4,x5⟩:=x;simp only[CdF] at HX;have OQ:=hid (OO.out.nil_trans O2.out);have RQ:=hid (OW.out.kept O2.out);obtain⟨pa,capa,rfl,-⟩:=Own.vrow (enc:=cdC) (s:=5) cdC_len OW.out;have hrb:res.length≤12:=by omega
     clear hlt hki hi hlb;have m:=mm0 wr [];have k:=m.out.k;have c:=HX.out wr (Only.refl [] wr);go_wp2_with (first|((with_reducible refine wU ?_);clear k m c;intro w m k;have c:=HX.out w m.out.only)|(at_builtin;refine stop_here ?_))
     have O3:=hid m.out.only;have R3:=hid (RQ.out.kept m.out.only);refine alloc_abs (G:=fun w0=>Stop (wpList _ _ _ _ _ w0)) ?_;intro w5 hb5 ho5 hs5;have B5:=hid hb5;have O5:=hid (O3.out.nil_trans ho5);have R5:=hid (R3.out.kept ho5);clear hb5 ho5 hs5 m k c;refine stop_go ?_;refine wpList_append_one (w0:=wo) rfl _ _ 101 rfl 146 cdZ 5 40 Tryz.underlying101 cd_info rfl (by decide) cdC cdC_len cdC_one res _ rfl R5.out _ ⟨x1,x2,x3,x4,x5⟩ rfl (fun j u hj=>?_) (by simp[maxLen];omega) (by omega) (OQ.out.nil_trans O5.out) ?_
     focus
      rw[cell_got B5.out,←hj];simp[cdC]
     intro v6 w6 hown6 ho6 ho7;have W6:=hid hown6;have O6:=hid ho6;have V6:=hid ((HVW.out.kept O5.out).kept' ho7 (fun a ha=>HPB.out a ha));clear hown6 ho6 ho7;go_wp2_with fail
     refine (HWI.out _ V6.out).mono ?_;rintro e w7 ⟨⟨v7,rfl,hown7⟩,ho7⟩;have W7:=hid hown7;have O7:=hid (O6.out.nil_trans ho7);have W67:=hid (W6.out.kept ho7);have h6:=own_block W6.out;clear ho7 hown7;obtain⟨p8,cap8,rfl,hv8⟩:=Own.vrow (enc:=cdC) (s:=5) cdC_len W7.out;have V8:=hid hv8
     have HPN:=hid (show ∀ a,p8=some a→a.block ∉ v6.ownBlock.toList from fun a ha hm=>by
      have h9:=h6 _ hm;rcases W7.out with ⟨h1,-⟩|⟨g,cc,h1,hge,-⟩
      ·simp only[Value.slice.injEq] at h1;rw[ha] at h1;cases h1.1
      ·simp only[Value.slice.injEq] at h1;rw[ha] at h1;have:=h1.1;cases this;dsimp only at h9;omega)
     clear hv8 h6;go_wp2;go_roundw
     case rel=>exact⟨p8,cap8,_,_,rfl,V8.out,W67.out,by rw[List.append_assoc];exact HOR2.out,HSN.out,HPN.out,O7.out⟩
     case measure=>exact HLN.out
  ·obtain rfl:cur=[]:=List.length_eq_zero_iff.1 (by omega)
   rw[ordC_nil,List.append_nil] at hres;subst hres;have m:=mm0 wr [];have k:=m.out.k;go_wp2_with (first|((with_reducible refine wU ?_);clear k m;intro w m k)|((with_reducible refine lE (fun w o g k K hK=>⟨rfl,?_⟩));simp[results,Tryz.results212,go_sem];refine hK _ ?_;exact⟨⟨_,rfl,OW.out.kept o⟩,OO.out.nil_trans o⟩))
theorem qSysC {w:World} {p:Option Addr} {n cap:Nat} {l:List Cd} (hv:VRow cdC 5 w p n cap l) (hg:Gd l) (h0:0<l.length)  :
  Calls Tryz.prog 144 #[.slice p n cap] w fun e w'=>e=.returned (.tuple #[.int .i64 ((ordC l).headD default).id,.bool true])∧Only [] w w':=by
 have HO:=hid (qOrdC hv hg);have hol:=(ordC_perm l).length_eq;generalize ordC l=l2 at HO hol ⊢;have h02:0<l2.length:=by omega
 have he:l2.headD default=l2[0]:=by cases l2 with|nil=>simp at h02|cons=>rfl
 rw[he];obtain⟨x,hx⟩:∃ x,l2[0]=x:=⟨_,rfl⟩;rw[hx];obtain⟨wo,hwo⟩:∃ wo:World,wo=w:=⟨_,rfl⟩;subst hwo;go_enter Tryz.func144,Tryz.ntmps144
 go_wp2_with fail
 refine HO.out.mono ?_;rintro e w1 ⟨⟨v,rfl,hown⟩,ho1⟩;have O1:=hid ho1;obtain⟨p2,cap2,rfl,hv2⟩:=Own.vrow (enc:=cdC) (s:=5) cdC_len hown;obtain⟨b,off,rfl,-,HC⟩:=hv2.at h02;have HX:=hid (fun w' (o:Only [] w1 w')=>HC 0 h02 w' o);rw[hx] at HX;simp only[CdF,Nat.zero_mul,Nat.add_zero] at HX;have hne:((l2.length:Int) == 0)=false:=by rw[beq_eq_false_iff_ne];omega
 have hl0:(0:Int)<(l2.length:Int):=by omega
 clear ho1 hown hv2 HC HO hol he hx;have m:=mm0 w1 [];have k:=m.out.k;have c:=HX.out w1 (Only.refl _ _);go_wp2_with (first|((with_reducible refine wU ?_);clear k m c;intro w m k;have c:=HX.out w m.out.only)|((with_reducible refine lE (fun w o g k K hK=>⟨rfl,?_⟩));simp[results,Tryz.results144,go_sem];refine hK _ ?_;exact⟨rfl,O1.out.nil_trans o⟩))
end
section
open Go.Lib (hid)
set_option maxRecDepth 100000
set_option maxHeartbeats 16000000
open Go.RowKit Go.Sort
theorem sp_aux2 {s n dv:Nat} (h:s≤min n n*1152921504606846976) (hd:n-1=dv) (h2:2≤n):s / dv≤2305843009213693952:=by
 have e:dv*2305843009213693952=(2*dv)*1152921504606846976:=by omega
 refine Nat.div_le_of_le_mul (Nat.le_trans h ?_);rw[e,Nat.min_self];exact Nat.mul_le_mul_right _ (by omega)
theorem qSprC {w:World} {p:Option Addr} {n cap:Nat} {l:List Cd} (hv:VRow cdC 5 w p n cap l) (hg:Gd l) (h2:2≤l.length) {i:Nat} (hi:i<l.length)  :
  Calls Tryz.prog 213 #[.slice p n cap,.int .i64 i] w fun e w'=>e=.returned (.int .i64 (spdC l i:Nat))∧Only [] w w':=by
 obtain rfl:n=l.length:=hv.len.symm;have hlb:=hg.len;have HV:=hid hv;have HG:=hid hg;obtain⟨res,HE⟩:∃ zz,Hid (spdC l i=zz):=⟨_,hid rfl⟩;rw[HE.out];unfold spdC at HE;rw[List.getD_eq_getElem?_getD,List.getElem?_eq_getElem hi,Option.getD_some] at HE;obtain⟨yo,hyo⟩:∃ y,l[i].off=y:=⟨_,rfl⟩;rw[hyo] at HE;have HYO:=hid hyo;clear hyo;obtain⟨b,off,rfl,-,HC⟩:=hv.at (by omega);have HCX:=hid HC;obtain⟨wo,hwo⟩:∃ wo:World,wo=w:=⟨_,rfl⟩;subst hwo;go_enter Tryz.func213,Tryz.ntmps213
 go_wp2_with fail
 go_loopw [5,6] (fun vs vj wr=>∃ j:Nat,j≤l.length∧vj=.int .i64 j∧vs=.int .u64 (spS yo (l.take j):Nat)∧Only [] wo wr) (fun _ vj _=>l.length-(intOf vj).toNat)
 case atStart=>exact⟨0,Nat.zero_le _,rfl,rfl,Only.refl _ _⟩
 case round =>
  obtain⟨j,hk,rfl,rfl,ho⟩:=hrel;have OO:=hid ho;have hsb:=spS_bd yo (l.take j);rw[List.length_take] at hsb;by_cases hlt:j<l.length
  ·have HX:=hid (fun w' (o:Only [] wr w')=>And.intro (HCX.out i hi w' (OO.out.nil_trans o)) (HCX.out j hlt w' (OO.out.nil_trans o)))
   have HLT:=hid hlt;have hlt2:(j:Int)<(l.length:Int):=by omega
   have hili:(i:Int)<(l.length:Int):=by omega
   have hz:=okC_bd (HG.out.ok _ (List.getElem_mem hi));have hy:=okC_bd (HG.out.ok _ (List.getElem_mem hlt));have hq:=sqD_bd yo l[j].off;have hm:=min_sq yo l[j].off;have HS:=hid (show spS yo (l.take (j+1))=spS yo (l.take j)+sqD yo l[j].off by rw[take_snoc l hlt,spS_snoc];rfl);generalize hs2:spS yo (l.take (j+1))=s2 at HS;have H2:=hid hs2;generalize spS yo (l.take j)=s1 at HS hsb ⊢;have hyo:=HYO.out;generalize l[i]=x at hz HX hyo;generalize l[j]=y at hy hq hm HS HX;obtain⟨x1,x2,x3,x4,x5⟩:=x;obtain⟨y1,y2,y3,y4,y5⟩:=y;simp only[CdF] at HX;dsimp only at hq hm hz hy HS hyo;subst hyo;obtain⟨d,hd⟩:∃ d,min ((x2-y2).natAbs:Int) 1073741824=d:=⟨_,rfl⟩;rw[hd] at hm;have r1:IntKind.i64.wrap (x2-y2)=x2-y2:=by rw[IntKind.wrap_i64];omega
   have r2:IntKind.i64.wrap (-(x2-y2))= -(x2-y2):=by rw[IntKind.wrap_i64];omega
   have r2':IntKind.i64.wrap (y2-x2)=y2-x2:=by rw[IntKind.wrap_i64];omega
   have r3:min (max (x2-y2) (-(x2-y2))) 1073741824=d:=by omega
   have r3':min (max (x2-y2) (y2-x2)) 1073741824=d:=by omega
   have r4:IntKind.i64.wrap (d*d)=(sqD x2 y2:Int):=by rw[hm,IntKind.wrap_i64];omega
   have r4':wrap64 (d*d)=(sqD x2 y2:Int):=by rw[hm];unfold wrap64;omega
   have r5:IntKind.u64.wrap (sqD x2 y2:Int)=(sqD x2 y2:Int):=by rw[IntKind.wrap_u64];omega
   have r6:IntKind.u64.wrap ((s1:Int)+(sqD x2 y2:Int))=((s1+sqD x2 y2:Nat):Int):=by rw[IntKind.wrap_u64];omega
   generalize sqD x2 y2=q at hq hm HS r4 r4' r5 r6;clear hs2 ho hsb hq hm hz hy hd HC;have m:=mm0 wr [];have k:=m.out.k;have c:=HX.out wr (Only.refl [] wr);go_wp2_with (first|((with_reducible refine rG (id:=5) [0,1,2,3,4,5,6,7,8,9,10,11] [] (by kernel_rfl) (by kernel_rfl) ?_);simp only[pick,List.map_cons,List.map_nil,List.getD_cons_succ,List.getD_cons_zero];(repeat' (first|go_big_quiet_step (fail)|(refine wpQuiet_step (fun K hK=>?_);go_simp;(first|(refine hK _ ?_;clear hK K)|(split<;>(refine hK _ ?_;clear hK K))))));all_goals (refine wpQuiet_nil ?_;clear k m c;intro w m k;have c:=HX.out w m.out.only))|((with_reducible refine wU ?_);clear k m c;intro w m k;have c:=HX.out w m.out.only)|(go_roundw;(case rel=>exact⟨j+1,HLT.out,by go_num,(by rw[H2.out,HS.out];first|rfl|simp),OO.out.nil_trans gO⟩);(case measure=>first|(simp[intOf];done)|(simp[intOf];omega))))
  ·obtain rfl:j=l.length:=by omega
   rw[List.take_length] at hsb ⊢;obtain⟨dv,hdv⟩:∃ dv,l.length-1=dv:=⟨_,rfl⟩;have hdi:(l.length:Int)-1=(dv:Int):=by omega
   have hd0:((dv:Int) == 0)=false:=by rw[beq_eq_false_iff_ne];omega
   have hd1:¬ (dv:Int)=0:=by omega
   have hs0:=sp_aux2 hsb hdv h2;rw[hdv] at HE;generalize spS yo l=s at hs0 hsb HE ⊢;have e0:(s:Int).tdiv (dv:Int)=((s / dv:Nat):Int):=by rw[Int.tdiv_eq_ediv_of_nonneg (by omega)];simp
   have e1:(s:Int) / (dv:Int)=((s / dv:Nat):Int):=by simp
   have HS:=hid (fun w=>qRootU (s / dv) (by omega) w);generalize s / dv=q at HS e0 e1 HE hs0;have e2:IntKind.u64.wrap (q:Int)=(q:Int):=by rw[IntKind.wrap_u64];omega
   have e3:IntKind.u64.wrap (dv:Int)=(dv:Int):=by rw[IntKind.wrap_u64];omega
   have e4:IntKind.i64.wrap ((l.length:Int)-1)=(dv:Int):=by rw[IntKind.wrap_i64];omega
   obtain rfl:=HE.out;clear hs0 hsb;have m:=mm0 wr [];have k:=m.out.k;go_wp2_with (first|((with_reducible first|refine cM (HS.out _) ?_|refine wU ?_);clear k m;intro w m k)|((with_reducible refine rG (id:=5) [0,1,2,3,4,5,6,7,8,9,10,11] [] (by kernel_rfl) (by kernel_rfl) ?_);simp only[pick,List.map_cons,List.map_nil,List.getD_cons_succ,List.getD_cons_zero];(repeat' (first|go_big_quiet_step (fail)|(refine wpQuiet_step (fun K hK=>?_);go_simp;(first|(refine hK _ ?_;clear hK K)|(split<;>(refine hK _ ?_;clear hK K))))));all_goals (refine wpQuiet_nil ?_;clear k m;intro w m k))|((with_reducible refine lE (fun w o g k K hK=>⟨rfl,?_⟩));simp[results,Tryz.results213,go_sem];refine hK _ ?_;exact⟨rfl,OO.out.nil_trans o⟩))
theorem farK_self (l:List Cd):∀ k,(farK l (k+1)).2=spdC l (farK l (k+1)).1
 | 0=>by rw[farK_succ];unfold farF;simp[farK]
 |k+1=>by
  have h:=farK_self l k;rw[farK_succ l (k+1)];unfold farF;split
  ·rfl
  ·exact h
def lstK (l:List Cd) (k:Nat):Int:=(l.take k).foldl (fun m c=>min m c.jit) (l.headD default).jit
theorem lstK_succ {l:List Cd} {k:Nat} (hk:k<l.length):lstK l (k+1)=min (lstK l k) l[k].jit:=by
 unfold lstK;rw[take_snoc l hk,List.foldl_append];rfl
theorem lstK_one {l:List Cd} (h0:0<l.length):lstK l 1=l[0].jit:=by
 cases l with
 | nil=>simp at h0
 | cons a r=>simp[lstK]
theorem lstK_all (l:List Cd):lstK l l.length=lstC l:=by
 unfold lstK lstC;rw[List.take_length]
theorem qPrnC {w:World} {p:Option Addr} {n cap:Nat} {l:List Cd} (hv:VRow cdC 5 w p n cap l) (hg:Gd l) (h0:0<l.length) (keep:Int) (hkp:1≤keep) :
  Calls Tryz.prog 136 #[.slice p n cap,.int .i64 keep] w fun e w'=>(∃ v,e=.returned (.tuple #[v,.int .i64 0])∧Own cdC 146 5 w.heap.size w' v (prnC keep l))∧Only [] w w':=by
 obtain rfl:n=l.length:=hv.len.symm;have hlb:=hg.len;have hck:=qCheckC hv (by omega);rw[chkC_ok.2 hg] at hck;have HCK:=hid hck;have HV:=hid hv;have HO:=hid (fun w' (o:Only [] w w')=>qOrdC (hv.kept o) hg);have hgo:Gd (ordC l):=⟨by rw[(ordC_perm l).length_eq];exact hg.len,fun c hc=>hg.ok c ((ordC_perm l).subset hc),((ordC_perm l).map Cd.id).nodup_iff.2 hg.nd⟩;have hol:=(ordC_perm l).length_eq;unfold prnC;generalize ordC l=l2 at HO hgo hol ⊢;obtain⟨res,hres⟩:∃ r,pruneC keep l.length l2=r:=⟨_,rfl⟩;rw[hres];have d1:decide (keep<1)=false:=decide_eq_false (by omega);obtain⟨wo,hwo⟩:∃ wo:World,wo=w:=⟨_,rfl⟩;subst hwo;go_enter Tryz.func136,Tryz.ntmps136
 go_wp2_with fail
 refine HCK.out.mono ?_;rintro e w1 ⟨rfl,ho1⟩;have O1:=hid ho1;clear ho1 HCK;go_wp2_with fail
 refine (HO.out _ O1.out).mono ?_;rintro e w2 ⟨⟨v2,rfl,hown2⟩,ho2⟩;have O2:=hid (O1.out.nil_trans ho2);have W2:=hid (hown2.base O1.out.size);clear ho2 hown2 HO;go_wp2_with fail
 go_loopw [7] (fun vl wr=>∃ (n:Nat) (l':List Cd),l'.length≤n∧pruneC keep n l'=res∧Own cdC 146 5 wo.heap.size wr vl l'∧Gd l'∧0<l'.length∧Only [] wo wr) (fun vl _=>sliceLen vl)
 case atStart=>exact⟨_,l2,by omega,hres,W2.out,hgo,by omega,O2.out⟩
 case round =>
  obtain⟨n,l',hln,hpr,hown,hg2,hl0,ho⟩:=hrel;have OO:=hid ho;have OW:=hid hown;have HG:=hid hg2;obtain⟨p',cap',rfl,hv'⟩:=Own.vrow (enc:=cdC) (s:=5) cdC_len hown;have HV':=hid hv';have hl12:=hg2.len;by_cases hk:keep<(l'.length:Int)
  ·obtain⟨n,rfl⟩:∃ m,n=m+1:=⟨n-1,by omega⟩
   rw[pruneC,if_pos hk] at hpr;have HPR:=hid hpr;have h2:2≤l'.length:=by omega
   obtain⟨b,off,rfl,-,HC⟩:=hv'.at hl0;have HCX:=hid HC;have h0i:(0:Int)<(l'.length:Int):=by omega
   have dk:decide (keep<(l'.length:Int))=true:=decide_eq_true hk;clear ho hown hv' hpr HC hg2 hres hgo hol hlb hv hck hg h0;obtain⟨wl,hwl⟩:∃ wl:World,wl=wr:=⟨_,rfl⟩;subst hwl;have HX:=hid (fun w' (o:Only [] wl w')=>HCX.out 0 hl0 w' o);simp only[CdF,Nat.zero_mul,Nat.add_zero] at HX;have HL1:=hid (lstK_one hl0);generalize l'[0].jit=j0 at HX HL1;have m:=mm0 wl [];have k:=m.out.k;have c:=HX.out wl (Only.refl _ _);go_wp2_with fail
   clear m k c HX;go_loopw [8,9,10] (fun vw vj vi wr=>∃ i:Nat,1≤i∧i≤l'.length∧vi=.int .i64 i∧vw=.int .i64 ((farK l' i).1:Nat)∧vj=.int .i64 (lstK l' i)∧Only [] wl wr) (fun _ _ vi _=>l'.length-(intOf vi).toNat)
   case atStart=>exact⟨1,Nat.le_refl _,hl0,rfl,by rw[farK_succ];unfold farF;simp[farK],by rw[HL1.out],Only.refl _ _⟩
   case round =>
    obtain⟨i,h1,hi,rfl,rfl,rfl,ho⟩:=hrel;have O3:=hid ho;have hfl:=farK_lt l' i h1;have hfs:=farK_self l' (i-1);rw[show i-1+1=i by omega] at hfs;have HSB:=hid (fun w' (o:Only [] wr w')=>qSprC (HV'.out.kept (O3.out.nil_trans o)) HG.out h2 (show (farK l' i).1<l'.length by omega));rw[←hfs] at HSB;by_cases hlt:i<l'.length
    ·have HLT:=hid hlt
     have hlt2:(i:Int)<(l'.length:Int):=by omega
     have HX:=hid (fun w' (o:Only [] wr w')=>HCX.out i hlt w' (O3.out.nil_trans o));have HSA:=hid (fun w' (o:Only [] wr w')=>qSprC (HV'.out.kept (O3.out.nil_trans o)) HG.out h2 hlt);have HS:=hid (farK_succ l' i);have HS2:=hid (lstK_succ hlt);unfold farF at HS;generalize spdC l' i=s at HSA HS;generalize hfk2:farK l' (i+1)=fk2 at HS;have H2:=hid hfk2;generalize farK l' i=fk at HS HSB ⊢;obtain⟨q1,q2⟩:=fk;generalize hlk2:lstK l' (i+1)=lk2 at HS2;have H3:=hid hlk2;generalize lstK l' i=lk at HS2 ⊢;generalize l'[i]=x at HX HS2;obtain⟨x1,x2,x3,x4,x5⟩:=x;simp only[CdF] at HX;dsimp only at HS HS2 HSB ⊢;clear hfl hfs hfk2 hlk2 ho hlt h1 hi;by_cases hle:(q2:Int)≤(s:Int)
     focus
      have dhle:decide ((q2:Int)≤(s:Int))=true:=decide_eq_true hle;rw[if_pos (by omega)] at HS
     rotate_left 1
     focus
      have dhle:decide ((q2:Int)≤(s:Int))=false:=decide_eq_false hle;rw[if_neg (by omega)] at HS
     all_goals have m:=mm0 wr [];have k:=m.out.k;have c:=HX.out wr (Only.refl [] wr)
     all_goals go_wp2_with (first|((with_reducible first|refine cM (HSA.out _ m.out.only) ?_|refine cM (HSB.out _ m.out.only) ?_|refine wU ?_);clear k m c;intro w m k;have c:=HX.out w m.out.only)|(go_roundw;(case rel=>exact⟨i+1,Nat.succ_pos _,HLT.out,by go_num,(by rw[H2.out,HS.out]),(by rw[H3.out,HS2.out]),O3.out.nil_trans gO⟩);(case measure=>first|(simp[intOf];done)|(simp[intOf];omega))))
    ·obtain rfl:i=l'.length:=by omega
     rw[lstK_all];rw[show farK l' l'.length=farC l' from rfl] at HSB hfl ⊢;have HWI:=hid (fun w' (h:VRow cdC 5 w' (some ⟨b,off,none⟩) l'.length cap' l')=>qWithC h hfl (by omega));obtain⟨hgn,hnl⟩:=erase_gd HG.out hfl;generalize l'.take (farC l').1 ++ l'.drop ((farC l').1+1)=nx at HPR HWI hgn hnl;have HGN:=hid hgn;have HVW:=hid (HV'.out.kept O3.out);have RQ:=hid (OW.out.kept O3.out);have OQ:=hid (OO.out.nil_trans O3.out);generalize farC l'=fk at HPR HSB HWI ⊢;obtain⟨q1,q2⟩:=fk;generalize lstC l'=lk at HPR ⊢;dsimp only at HPR HSB HWI ⊢;clear hfl hfs hgn ho hi h1 hlt;by_cases hle:(q2:Int)≤lk
     ·have dle:decide ((q2:Int)≤lk)=true:=decide_eq_true hle
      rw[if_pos hle] at HPR;obtain rfl:=HPR.out;have m:=mm0 wr [];have k:=m.out.k;go_wp2_with (first|((with_reducible first|refine cM (HSB.out _ m.out.only) ?_|refine wU ?_);clear k m;intro w m k)|((with_reducible refine lE (fun w o g k K hK=>⟨rfl,?_⟩));simp[results,Tryz.results136,go_sem];refine hK _ ?_;exact⟨⟨_,rfl,RQ.out.kept o⟩,OQ.out.nil_trans o⟩))
     ·have dle:decide ((q2:Int)≤lk)=false:=decide_eq_false hle
      rw[if_neg hle] at HPR;have hn1:nx.length≤n:=by omega
      have hn2:0<nx.length:=by omega
      have hn3:nx.length<l'.length:=by omega
      have HN:=hid (And.intro hn1 (And.intro hn2 hn3));clear hn1 hn2 hn3;have m:=mm0 wr [];have k:=m.out.k;go_wp2_with (first|((with_reducible first|refine cM (HSB.out _ m.out.only) ?_|refine wU ?_);clear k m;intro w m k)|fail)
      refine (HWI.out _ (HVW.out.kept m.out.only)).mono ?_;rintro e w7 ⟨⟨v7,rfl,hown7⟩,ho7⟩;have hsz:=(OQ.out.nil_trans m.out.only).size;have W7:=hid (hown7.base hsz);have O7:=hid ((OQ.out.nil_trans m.out.only).nil_trans ho7);have hsl:sliceLen v7=nx.length:=by rcases hown7 with ⟨rfl,h⟩|⟨g,cc,rfl,-,-⟩<;>simp[sliceLen, *]
      have HSL:=hid hsl;clear ho7 hown7 m k hsl;go_wp2;go_roundw
      case rel=>exact⟨n,nx,HN.out.1,HPR.out,W7.out,HGN.out,HN.out.2.1,O7.out⟩
      case measure=>rw[HSL.out];exact HN.out.2.2
  ·have dk:decide (keep<(l'.length:Int))=false:=decide_eq_false hk
   have hpr2:l'=res:=by
    cases n with
    | zero=>exact hpr
    | succ n=>rwa [pruneC,if_neg hk] at hpr
   subst hpr2;have m:=mm0 wr [];have k:=m.out.k;go_wp2_with (first|((with_reducible refine wU ?_);clear k m;intro w m k)|((with_reducible refine lE (fun w o g k K hK=>⟨rfl,?_⟩));simp[results,Tryz.results136,go_sem];refine hK _ ?_;exact⟨⟨_,rfl,OW.out.kept o⟩,OO.out.nil_trans o⟩))
end
end Go.Proofs.YtedgpfgccpnjnaaGreat
