/- Texts of one chain: E4, E5, E6. Conditions: those named in each theorem. -/
import Derived.Test.YtppjhbjmfkiejaaGreatFV5
import Derived.Test.YtppjhbjmfkiejaaGreatFV3
import Derived.Test.YtppjhbjmfkiejaaGreatFV6
namespace Go.Proofs.YtppjhbjmfkiejaaGreat
open List (getElem_mem length_cons length_map length_take map_cons map_nil mem_cons_self mem_of_mem_take take_length take_of_length_le)
open IntKind (wrap_i64 wrap_u64)
open Go.Lib (hid)
set_option maxRecDepth 100000
set_option maxHeartbeats 4000000
section
open Go.RowKit Go.Sort
def tJ (l:List Cd):List Cd:=(Sort.insertionSort (ltOf cfC) l.toArray 0 l.length).toList
theorem iZ (l:List Cd):(tJ l).Perm l:=by
 have h:=(insertionSort_holds (lt:=ltOf cfC) cfC_swo l.toArray 0 l.length (Nat.zero_le _) (by simp)).1;obtain⟨h1,_,h3⟩:=h;unfold tJ;generalize Sort.insertionSort (ltOf cfC) l.toArray 0 l.length=d at h1 h3;have e1:d.extract 0 l.length=d:=by rw[show l.length=d.size by rw[h1];simp];simp
 have e2:l.toArray.extract 0 l.length=l.toArray:=by simp
 rw[e1,e2] at h3;simpa using h3
theorem sortf_x {w:World} {g cap:Nat} {l:List Cd} (h:aS iR 382 5 w g cap l) (hl:l.length<=12) :
  Calls Tryz.prog 282 #[.slice (some ⟨g,0,none⟩) l.length cap,.func (.func 283) #[] #[]] w fun e w'=>e=.returned (.tuple #[])/\aS iR 382 5 w' g cap (tJ l)/\Only [g] w w':=by
 obtain⟨cur,hg,h1,h2,h3,h4⟩:=h;have hfl:=oI iR 5 dN l
 have hold:HoldsK iR 5 w g 0 l.toArray:=by
  intro j hj;rw[Nat.zero_add];refine⟨?_,aL hg j⟩;have hj':j<l.length*5:=by simpa using hj
  rw[aB hg,<-Array.getElem?_toList,<-List.getElem?_take_of_lt hj',h4,<-hfl,Array.getElem?_toList,getElem!_pos _ j hj,Array.getElem?_eq_getElem hj];rfl
 have hs:l.toArray.size=l.length:=by simp
 have hc:=AnyQ.slices_SortFunc_small Tryz.laySortF 5 Tryz.isAgg382 Tryz.sizeOf382 iR dN zM cfC 283 #[] g 0 cap l.toArray w (enters_of Tryz.func283 (by kernel_rfl) rfl) (fun _ _ _ _ x y=>TI x y _) hold (aD hg) (by simpa using hl) (fun n W hn=>(Tryz.bits_Len n W (by omega) (by omega)).mono fun _ _ ⟨he,hw⟩=>⟨⟨_,he⟩,hw⟩);rw[hs] at hc;refine hc.mono ?_;rintro e w' ⟨rfl,n,os,rfl⟩;have hpm:=iZ l;obtain⟨d',hd'⟩:∃ d',Sort.insertionSort (ltOf cfC) l.toArray 0 l.length=d':=⟨_,rfl⟩;have ho:tJ l=d'.toList:=by rw[<-hd'];rfl
 rw[ho] at hpm |-;rw[hd'];have hd:d'.size=l.length:=by simpa using hpm.length_eq
 refine⟨rfl,⟨_,qE hg,by rw[mJ];omega,by rw[hpm.length_eq];exact h2,h3,?_⟩,qD⟩;have hf2:=oI iR 5 dN d'.toList;have hle:(flatK iR 5 d').size<=cur.size:=by simp;rw[hd];omega
 have:=mI id (flatK iR 5 d') cur hle;rw[List.map_id,show d'=d'.toList.toArray by simp,hf2] at this;rw[<-this];simp
abbrev CdF (w:World) (b o:Nat) (c:Cd):Prop:=b<w.heap.size/\w.cell? ⟨b,o,none⟩=some (.int .i64 c.id)/\w.cell? ⟨b,o+1,none⟩=some (.int .i64 c.off)/\w.cell? ⟨b,o+2,none⟩=some (.int .i64 c.dist)/\w.cell? ⟨b,o+3,none⟩=some (.int .i64 c.jit)/\w.cell? ⟨b,o+4,none⟩=some (.int .i64 c.str)
theorem aR.at {w:World} {p:Option Addr} {n cap:Nat} {l:List Cd} (hv:aR iR 5 w p n cap l) (h0:0<l.length):∃ b off,p=some ⟨b,off,none⟩/\b<w.heap.size/\∀ k (hk:k<l.length) w',Only [] w w'->CdF w' b (off+k*5) l[k]:=by
 obtain⟨b,off,hp,hb,_⟩:=hv.cd (Only.refl [] w) h0;refine⟨b,off,hp,hb,fun k hk w' ho=>?_⟩;obtain⟨b',off',hp',hb',h⟩:=hv.cd ho hk;obtain⟨rfl,rfl⟩:b=b'/\off=off':=by rw[hp] at hp';simpa using hp'
 exact⟨Nat.lt_of_lt_of_le hb ho.size,h⟩
def lstC (l:List Cd):Int:=l.foldl (fun m c=>min m c.jit) (l.headD default).jit
def xG (a b:Int):Nat:=min (a-b).natAbs 1073741824*min (a-b).natAbs 1073741824
def LQ (y:Int) (l:List Cd):Nat:=(l.map (fun c=>xG y c.off)).sum
def V5 (l:List Cd) (i:Nat):Nat:=UA (LQ (l.getD i default).off l / (l.length-1))
def UG (l:List Cd) (p:Nat × Nat) (i:Nat):Nat × Nat:=if p.2<=V5 l i then (i,V5 l i) else p
def H9 (l:List Cd):Nat × Nat:=(List.range l.length).foldl (UG l) (0,0)
def mK (keep:Int):Nat->List Cd->List Cd
 | 0,l=>l
 | n+1,l=>if keep<l.length then (if ((H9 l).2:Int)<=lstC l then l else mK keep n (l.take (H9 l).1 ++ l.drop ((H9 l).1+1))) else l
theorem wB (a b:Int):xG a b<=1152921504606846976:=Nat.mul_le_mul (Nat.min_le_right _ _) (Nat.min_le_right _ _)
theorem V8 (y:Int):∀ l:List Cd,LQ y l<=l.length*1152921504606846976
 | []=>by simp[LQ]
 | c::l=>by
  have h1:=V8 y l;have h2:=wB y c.off;simp only[LQ,map_cons,List.sum_cons,length_cons] at *;omega
theorem V7 (y:Int) (l:List Cd) (c:Cd):LQ y (l ++ [c])=LQ y l+xG y c.off:=by simp[LQ]
theorem eH {α:Type} (l:List α) {k:Nat} (h:k<l.length):l.take (k+1)=l.take k ++ [l[k]]:=by rw[List.take_add_one,List.getElem?_eq_getElem h];rfl
theorem isq_bd (n:Nat) (h:n<=9223372036854775807):UA n<=4294967296:=by
 have:=ZP (n:=n) (by omega);omega
def OrX (w0:World) (l:List Cd) (e:Ending) (w:World):Prop:=∃ g cap,e=.returned (.slice (some ⟨g,0,none⟩) (tJ l).length cap)/\w0.heap.size<=g/\aS iR 382 5 w g cap (tJ l)
theorem QB {w:World} {p:Option Addr} {n cap:Nat} {l:List Cd} (hv:aR iR 5 w p n cap l) (hg:Gd l) (h0:0<l.length) :
  Calls Tryz.prog 254 #[.slice p n cap] w fun e w'=>OrX w l e w'/\Only [] w w':=by
 have hln:=hv.len;subst hln;have hlb:=hg.len;have hck:=tF hv (by omega);rw[mD.2 hg] at hck;have HCK:=hid hck;have HCL:=hid (fun w' (ho:Only [] w w')=>cloneC (hv.kept ho) h0 (by omega));clear hv hg hck;go_enter Tryz.func254,Tryz.ntmps254
 go_wp2_with fail
 refine HCK.out.mono ?_;rintro e w1 ⟨rfl,ho1⟩;have O1:=hid ho1;clear ho1;go_wp2_with fail
 refine (HCL.out w1 O1.out).mono ?_;rintro e w2 ⟨⟨g,cap',rfl,hg,hr⟩,ho2⟩;have HG:Hid (w.heap.size<=g):=hid (Nat.le_trans O1.out.size hg);have O2:=hid (O1.out.aA ho2);have HS:=hid (sortf_x hr hlb);clear ho2 hg hr;go_wp2_with fail
 refine HS.out.mono ?_;rintro e w3 ⟨rfl,hr,ho3⟩;have O3:=hid (O2.out.trans ho3 (fun x hx=>.inr (by rw[List.mem_singleton] at hx;rw[hx];exact HG.out)));have HR:=hid hr;have hl:=(iZ l).length_eq;clear ho3 hr;go_wp2;go_ret
 exact⟨⟨g,cap',by rw[hl];rfl,HG.out,HR.out⟩,O3.out⟩
theorem ZG {l:List Cd} (hg:Gd l) (h0:0<l.length):∀ k,k<=l.length->0<=(l.take k).foldl (fun m c=>min m c.jit) (l.headD default).jit/\(l.take k).foldl (fun m c=>min m c.jit) (l.headD default).jit<=9007199254740992
 | 0,_=>by
  have:=iH (hg.ok _ (getElem_mem h0));rw[List.take_zero,List.foldl_nil,show l.headD default=l[0] by cases l with|nil=>simp at h0|cons=>rfl];omega
 | k+1,h=>by
  have h1:=ZG hg h0 k (by omega);have:=iH (hg.ok _ (getElem_mem (show k<l.length by omega)));rw[eH l (by omega),List.foldl_append,List.foldl_cons,List.foldl_nil];omega
def LjX (w:World) (l:List Cd) (vm vi:Value) (wr:World):Prop:=∃ k:Nat,k<=l.length/\vi=.int .i64 k/\vm=.int .i64 ((l.take k).foldl (fun m c=>min m c.jit) (l.headD default).jit)/\Only [] w wr
theorem pLeastX {w:World} {p:Option Addr} {n cap:Nat} {l:List Cd} (hv:aR iR 5 w p n cap l) (hg:Gd l) (h0:0<l.length)  :
  Calls Tryz.prog 256 #[.slice p n cap] w fun e w'=>e=.returned (.int .i64 (lstC l))/\Only [] w w':=by
 have hln:=hv.len;subst hln;have hlb:=hg.len;obtain⟨b,off,rfl,hb,HC⟩:=hv.at h0;have HB:=hid (ZG hg h0);have HQ:=hid (show (l.headD default).jit=l[0].jit by cases l with|nil=>simp at h0|cons=>rfl);have HX:=hid HC;have c:=HC 0 h0 w (Only.refl [] w);clear hv hg HC;simp only[Nat.zero_mul,Nat.add_zero] at c;have hl0:(0:Int)<(l.length:Int):=by omega
 go_enter Tryz.func256,Tryz.ntmps256
 go_wp2_with fail
 go_loopw [3,12] (fun vm vi wr=>LjX w l vm vi wr) (fun _ vi _=>l.length-(intOf vi).toNat)
 case atStart=>exact⟨0,Nat.zero_le _,rfl,by rw[List.take_zero,List.foldl_nil,HQ.out],Only.refl _ _⟩
 case round =>
  clear c;obtain⟨i,hk,rfl,rfl,ho⟩:=hrel;have OO:=hid ho;by_cases hlt:i<l.length
  ·have HX:=hid (fun w' (o:Only [] wr w')=>HX.out i hlt w' (OO.out.aA o))
   have hs:=eH l hlt;have hb1:=HB.out (i+1) (by omega);rw[hs,List.foldl_append,List.foldl_cons,List.foldl_nil] at hb1;have HS:=hid hs;generalize hf:(l.take i).foldl (fun m c=>min m c.jit) (l.headD default).jit=f at hb1 |-;have HF:=hid hf;clear hf hs;have m:=bJ wr [];have k:=m.out.k;have c:=HX.out wr (Only.refl [] wr);go_wp2_with (first|((with_reducible refine wU ?_);clear k m c;intro w m k;have c:=HX.out w m.out.only)|(go_roundw;(case rel=>exact⟨i+1,by omega,by go_num,by rw[HS.out,List.foldl_append,HF.out];rfl,OO.out.aA gO⟩);(case measure=>first|(simp[intOf];done)|(simp[intOf];omega))))
  ·obtain rfl:i=l.length:=by omega
   rw[take_length];go_wp2;go_ret
   exact⟨rfl,OO.out⟩
def SpX (w:World) (l:List Cd) (y:Int) (vs vi:Value) (wr:World):Prop:=∃ k:Nat,k<=l.length/\vi=.int .i64 k/\vs=.int .u64 (LQ y (l.take k))/\Only [] w wr
theorem V6 {s n dv:Nat} (h:s<=min n n*1152921504606846976) (hd:n-1=dv) (h2:2<=n):s / dv<=4611686018427387904:=by
 have e:dv*4611686018427387904=(4*dv)*1152921504606846976:=by omega
 refine Nat.div_le_of_le_mul (Nat.le_trans h ?_);rw[e,Nat.min_self];exact Nat.mul_le_mul_right _ (by omega)
theorem NC (a b:Int):(min ((a-b).natAbs:Int) 1073741824)*(min ((a-b).natAbs:Int) 1073741824)=(xG a b:Int):=by
 unfold xG;rw[show min ((a-b).natAbs:Int) 1073741824=((min (a-b).natAbs 1073741824:Nat):Int) by omega];simp
theorem XY {w:World} {p:Option Addr} {n cap i:Nat} {l:List Cd} (hv:aR iR 5 w p n cap l) (hg:Gd l) (h2:2<=l.length) (hi:i<l.length)  :
  Calls Tryz.prog 285 #[.slice p n cap,.int .i64 i] w fun e w'=>e=.returned (.int .i64 (V5 l i))/\Only [] w w':=by
 have hln:=hv.len;subst hln;have hlb:=hg.len;obtain⟨b,off,rfl,hb,HC⟩:=hv.at (by omega);have hck:=tF hv (by omega);rw[mD.2 hg] at hck;have HCK:=hid (fun w' (o:Only [] w w')=>(by have h:=tF (hv.kept o) (by omega);rwa [mD.2 hg] at h:Calls Tryz.prog 250 #[.slice (some ⟨b,off,none⟩) l.length cap] w' fun e w2=>e=.returned (.int .i64 0)/\Only [] w' w2));have HX:=hid HC;have HG:=hid hg;have d1:decide ((l.length:Int)<2)=false:=by simp;omega
 have d2:decide ((l.length:Int)<=(i:Int))=false:=by simp;omega
 have d3:decide (l.length<=i)=false:=by simp;omega
 have d4:decide (l.length<2)=false:=by simp;omega
 have hgd:l.getD i default=l[i]:=by rw[List.getD_eq_getElem?_getD,List.getElem?_eq_getElem hi];rfl
 have hy:=iH (hg.ok _ (getElem_mem hi));unfold V5;rw[hgd];obtain⟨res,HE⟩:∃ r:Nat,Hid (UA (LQ l[i].off l / (l.length-1))=r):=⟨_,hid rfl⟩;rw[HE.out];clear hv hg HC hck hgd;obtain⟨wo,hwo⟩:∃ wo:World,wo=w:=⟨_,rfl⟩;subst hwo;have m:=bJ wo [];have k:=m.out.k;go_enter Tryz.func285,Tryz.ntmps285
 go_wp2_with ((with_reducible refine cM (HCK.out _ gO) ?_);clear k m;intro w m k)
 have O1:=hid m.out.only;go_loopw [5,32] (fun vs vi wr=>SpX wo l l[i].off vs vi wr) (fun _ vi _=>l.length-(intOf vi).toNat)
 case atStart=>exact⟨0,Nat.zero_le _,rfl,rfl,O1.out⟩
 case round =>
  clear k m;obtain⟨j,hk,rfl,rfl,ho⟩:=hrel;have OO:=hid ho;have hsb:=V8 l[i].off (l.take j);rw[length_take] at hsb;by_cases hlt:j<l.length
  ·have HX:=hid (fun w' (o:Only [] wr w')=>And.intro (HX.out j hlt w' (OO.out.aA o)) (HX.out i hi w' (OO.out.aA o)))
   have hz:=iH (HG.out.ok _ (getElem_mem hlt));have hq:=wB l[i].off l[j].off;have hm:=NC l[i].off l[j].off;have HS:=hid (show LQ l[i].off (l.take (j+1))=LQ l[i].off (l.take j)+xG l[i].off l[j].off by rw[eH l hlt,V7]);generalize l[i]=y at hy hz hq hm HS HX hsb |-;generalize l[j]=z at hz hq hm HS HX hsb |-;obtain⟨y0,y1,y2,y3,y4⟩:=y;obtain⟨z0,z1,z2,z3,z4⟩:=z;dsimp only at hy hz hq hm HS HX hsb |-;have HA:=hid (fun w=>jA (fabs (y1-z1) w (by omega) (by omega)));have r1:IntKind.i64.wrap (y1-z1)=y1-z1:=by rw[wrap_i64];omega
   have r2:IntKind.i64.wrap (xG y1 z1:Int)=(xG y1 z1:Int):=by rw[wrap_i64];omega
   have r3:IntKind.u64.wrap (xG y1 z1:Int)=(xG y1 z1:Int):=by rw[wrap_u64];omega
   have r4:IntKind.u64.wrap ((LQ y1 (l.take j):Int)+(xG y1 z1:Int))=((LQ y1 (l.take j)+xG y1 z1:Nat):Int):=by rw[wrap_u64];omega
   rw[<-HS.out] at r4;generalize hs2:LQ y1 (l.take (j+1))=s2 at HS r4;have H2:=hid hs2;clear hs2;generalize LQ y1 (l.take j)=s1 at HS r4 hsb |-;generalize xG y1 z1=q at r2 r3 r4 hm HS hq;generalize (y1-z1).natAbs=d at HA hm;clear hsb hq hy hz;have m:=bJ wr [];have k:=m.out.k;have c:=HX.out wr (Only.refl [] wr);go_wp2_with (first|((with_reducible first|refine cM (HA.out _) ?_|refine wU ?_);clear k m c;intro w m k;have c:=HX.out w m.out.only)|((with_reducible refine rG (id:=7) [0,1,2,3,4,5,6,7,8,9,10,11,12,13] [] (by kernel_rfl) (by kernel_rfl) ?_);simp only[pick,map_cons,map_nil,List.getD_cons_succ,List.getD_cons_zero];(repeat' (first|go_big_quiet_step (with_reducible first|exact gX (HA.out _))|(refine wpQuiet_step (fun K hK=>?_);go_simp;(first|(refine hK _ ?_;clear hK K)|(split<;>(refine hK _ ?_;clear hK K))))));all_goals (refine wpQuiet_nil ?_;clear k m c;intro w m k;have c:=HX.out w m.out.only))|(go_roundw;(case rel=>exact⟨j+1,by omega,by go_num,by rw[H2.out],OO.out.aA gO⟩);(case measure=>first|(simp[intOf];done)|(simp[intOf];omega))))
  ·obtain rfl:j=l.length:=by omega
   rw[take_length] at hsb;rw[take_length];obtain⟨dv,hdv⟩:∃ dv,l.length-1=dv:=⟨_,rfl⟩;have hdi:(l.length:Int)-1=(dv:Int):=by omega
   have hd0:((dv:Int) == 0)=false:=by rw[beq_eq_false_iff_ne];omega
   have hd1:¬ (dv:Int)=0:=by omega
   have hs0:=V6 hsb hdv h2;rw[hdv] at HE;generalize LQ l[i].off l=s at hs0 hsb HE |-;have e1:(s:Int) / (dv:Int)=((s / dv:Nat):Int):=by simp
   have e3:IntKind.u64.wrap (dv:Int)=(dv:Int):=by rw[wrap_u64];omega
   have HS:=hid (fun w=>jA (ZX (s / dv) w (by omega)));generalize s / dv=q at HS e1 HE hs0;have e2:IntKind.i64.wrap (q:Int)=(q:Int):=by rw[wrap_i64];omega
   have e4:IntKind.u64.wrap (q:Int)=(q:Int):=by rw[wrap_u64];omega
   obtain rfl:=HE.out;clear hs0 hsb;have m:=bJ wr [];have k:=m.out.k;go_wp2_with (first|((with_reducible first|refine cM (HS.out _) ?_|refine wU ?_);clear k m;intro w m k)|((with_reducible refine lE (fun w o g k K hK=>⟨rfl,?_⟩));simp[results,Tryz.results285,go_sem];refine hK _ ?_;exact⟨rfl,OO.out.aA o⟩))
end
section
open Go.RowKit
def BS (l:List Cd) (k:Nat):Nat × Nat:=(List.range k).foldl (UG l) (0,0)
theorem wS (l:List Cd) (k:Nat):BS l (k+1)=UG l (BS l k) k:=by unfold BS;rw[List.range_succ,List.foldl_append];rfl
theorem H8 (l:List Cd):∀ k,0<k->(BS l k).1<k
 | 0,h=>by omega
 | 1,_=>by rw[wS];unfold UG;split<;>simp[BS]
 | k+2,_=>by
  have:=H8 l (k+1) (by omega);rw[wS];unfold UG;split
  ·simp
  ·omega
def FaX (w:World) (l:List Cd) (vw vg vi:Value) (wr:World):Prop:=∃ k:Nat,k<=l.length/\vi=.int .i64 k/\vw=.int .i64 (BS l k).1/\vg=.int .i64 (BS l k).2/\Only [] w wr
theorem pFarX {w:World} {p:Option Addr} {n cap:Nat} {l:List Cd} (hv:aR iR 5 w p n cap l) (hg:Gd l) (h2:2<=l.length)  :
  Calls Tryz.prog 255 #[.slice p n cap] w fun e w'=>e=.returned (.tuple #[.int .i64 (H9 l).1,.int .i64 (H9 l).2])/\Only [] w w':=by
 have hln:=hv.len;subst hln;have hlb:=hg.len;have HV:=hid hv;have HG:=hid hg;rw[show H9 l=BS l l.length from rfl];clear hv hg;go_enter Tryz.func255,Tryz.ntmps255
 go_wp2_with fail
 go_loopw [4,5,10] (fun vw vg vi wr=>FaX w l vw vg vi wr) (fun _ _ vi _=>l.length-(intOf vi).toNat)
 case atStart=>exact⟨0,Nat.zero_le _,rfl,rfl,rfl,Only.refl _ _⟩
 case round =>
  obtain⟨i,hk,rfl,rfl,rfl,ho⟩:=hrel;have OO:=hid ho;by_cases hlt:i<l.length
  ·have HSP:=hid (fun w' (o:Only [] wr w')=>XY (HV.out.kept (OO.out.aA o)) HG.out h2 hlt)
   have HS:=hid (wS l i);unfold UG at HS;generalize V5 l i=s at HSP HS;obtain⟨⟨j,q⟩,hf⟩:∃ f,BS l i=f:=⟨_,rfl⟩;rw[hf] at HS |-;dsimp only at HS |-;clear hf ho;have m:=bJ wr [];have k:=m.out.k;go_wp2_with (first|((with_reducible first|refine cM (HSP.out _ gO) ?_|refine wU ?_);clear k m;intro w m k)|(go_roundw;(case rel=>exact⟨i+1,by omega,by go_num,by rw[HS.out];grind,by rw[HS.out];grind,OO.out.aA gO⟩);(case measure=>first|(simp[intOf];done)|(simp[intOf];omega))))
  ·obtain rfl:i=l.length:=by omega
   go_wp2;go_ret2;exact⟨rfl,OO.out⟩
def sliceLen:Value->Nat
 | .slice _ n _=>n
 | _=>0
def PrX (w:World) (keep:Int) (g cap:Nat) (res:List Cd) (vl:Value) (wr:World):Prop:=∃ (n:Nat) (l':List Cd),l'.length<=n/\mK keep n l'=res/\vl=.slice (some ⟨g,0,none⟩) l'.length cap/\aS iR 382 5 wr g cap l'/\Gd l'/\0<l'.length/\Only [] w wr
theorem KW {l:List Cd} {j:Nat} (h:Gd l) (hj:j<l.length):Gd (l.take j ++ l.drop (j+1))/\(l.take j ++ l.drop (j+1)).length=l.length-1:=by
 rw[<-List.eraseIdx_eq_take_drop_succ];exact⟨h.sub (List.eraseIdx_sublist _ _),List.length_eraseIdx_of_lt hj⟩
def TA (keep:Int) (l:List Cd):List Cd:=mK keep l.length (tJ l)
theorem JO {keep:Int} (hkp:1<=keep):∀ (n:Nat) {l:List Cd},Gd l->0<l.length->Gd (mK keep n l)/\0<(mK keep n l).length/\∀ c∈mK keep n l,c∈l
 | 0,l,h,h0=>⟨h,h0,fun _ h=>h⟩
 | n + 1,l,h,h0=>by
  unfold mK;split
  ·rename_i hk
   split
   ·exact⟨h,h0,fun _ h=>h⟩
   ·have hj:=H8 l l.length h0
    rw[show H9 l=BS l l.length from rfl];obtain⟨h1,h2⟩:=KW h hj;obtain⟨a,b,c⟩:=JO hkp n h1 (by omega)
    exact⟨a,b,fun x hx=>by
     have:=c x hx;rw[<-List.eraseIdx_eq_take_drop_succ] at this;exact (List.eraseIdx_sublist _ _).subset this⟩
  ·exact⟨h,h0,fun _ h=>h⟩
theorem pPruneX {w:World} {p:Option Addr} {n cap:Nat} {l:List Cd} (hv:aR iR 5 w p n cap l) (hg:Gd l) (h0:0<l.length) (keep:Int) (hkp:1<=keep) :
  Calls Tryz.prog 239 #[.slice p n cap,.int .i64 keep] w fun e w'=>(∃ g cap,e=.returned (.tuple #[.slice (some ⟨g,0,none⟩) (TA keep l).length cap,.int .i64 0])/\w.heap.size<=g/\aS iR 382 5 w' g cap (TA keep l))/\Only [] w w':=by
 have hln:=hv.len;subst hln;have hlb:=hg.len;have hck:=tF hv (by omega);rw[mD.2 hg] at hck;have HCK:=hid hck;have HV:=hid hv;have HG:=hid hg;clear hv hg hck;have d1:decide (keep<1)=false:=by simp;omega
 unfold TA;have hp:=iZ l;obtain⟨l2,hl2⟩:∃ l2,tJ l=l2:=⟨_,rfl⟩;rw[hl2] at hp |-;obtain⟨res,hres⟩:∃ res,mK keep l.length l2=res:=⟨_,rfl⟩;rw[hres];have HRES:=hid hres;have HL2:=hid hl2;have HPM:=hid hp;clear hl2 hres hp;go_enter Tryz.func239,Tryz.ntmps239
 go_wp2_with fail
 refine HCK.out.mono ?_;rintro e w1 ⟨rfl,ho1⟩;have O1:=hid ho1;clear ho1 HCK;have HO:=hid (QB (HV.out.kept O1.out) HG.out h0);go_wp2_with fail
 refine HO.out.mono ?_;rintro e w2 ⟨⟨g,cap2,rfl,hge,hr⟩,ho2⟩;have O2:=hid (O1.out.aA ho2);have R2:=hid hr;have HGE:Hid (w.heap.size<=g):=hid (Nat.le_trans O1.out.size hge);have hp:=HPM.out;have G2:=hid (HG.out.perm hp);have h02:0<l2.length:=by rw[hp.length_eq];exact h0
 have hlq:=hp.length_eq;rw[HL2.out] at R2 |-;clear ho2 hr hge hp HO;go_wp2_with fail
 go_loopw [7] (fun vl wr=>PrX w keep g cap2 res vl wr) (fun vl _=>sliceLen vl)
 case atStart=>exact⟨l.length,l2,by omega,HRES.out,by rw[HPM.out.length_eq],R2.out,G2.out,h02,O2.out⟩
 case round =>
  clear h02;obtain⟨nn,l',hnn,hpr,rfl,hr,hg',hl0,ho⟩:=hrel;obtain⟨n2,rfl⟩:∃ n2,nn=n2+1:=⟨nn-1,by omega⟩;have HP:=hid hpr;unfold mK at HP;have hfar:=H8 l' l'.length hl0;rw[show BS l' l'.length=H9 l' from rfl] at hfar;clear hpr;have RR:=hid hr;have GG:=hid hg';have OO:=hid ho;have VV:=hid (hr.dI dN rfl);have hlb':=hg'.len;clear hr hg' ho;by_cases hgt:keep<(l'.length:Int)
  ·have q1:decide (keep<(l'.length:Int))=true:=dW hgt
   have HF:=hid (pFarX VV.out GG.out (by omega));go_wp2_with fail
   refine HF.out.mono ?_;rintro e w3 ⟨rfl,ho3⟩;generalize H9 l'=fc at HP hfar |-;obtain⟨j,m⟩:=fc;dsimp only at HP hfar |-;have hj:=hfar;have O3:=hid (OO.out.aA ho3);have R3:=hid (RR.out.kept ho3 (by simp));have HL:=hid (pLeastX (VV.out.kept ho3) GG.out hl0);clear ho3 HF;go_wp2_with fail
   refine HL.out.mono ?_;rintro e w4 ⟨rfl,ho4⟩;generalize lstC l'=r at HP |-;have O4:=hid (O3.out.aA ho4);have R4:=hid (R3.out.kept ho4 (by simp));clear ho4 HL;by_cases hle:(m:Int)<=r
   ·have q2:decide ((m:Int)<=r)=true:=dW hle
    go_wp2_with fail
    go_ret2;obtain rfl:l'=res:=by rw[<-HP.out,if_pos (by omega),if_pos (by omega)]
    exact⟨⟨g,cap2,rfl,HGE.out,R4.out⟩,O4.out⟩
   ·have q2:decide ((m:Int)<=r)=false:=dD hle
    have hD:=deleteC R4.out hj (by omega);rw[show ((j+1:Nat):Int)=(j:Int)+1 by omega] at hD;have HD:=hid hD;clear hD;go_wp2_with fail
    refine HD.out.mono ?_;rintro e w5 ⟨rfl,hr5,ho5⟩;obtain⟨hg5,hl5⟩:=KW GG.out hj;rw[<-hl5];have O5:=hid (O4.out.trans ho5 (fun x hx=>.inr (by rw[List.mem_singleton] at hx;rw[hx];exact HGE.out)));have R5:=hid hr5;have G5:=hid hg5;have hl6:0<(l'.take j ++ l'.drop (j+1)).length:=by omega
    have hl7:(l'.take j ++ l'.drop (j+1)).length<l'.length:=by omega
    have HP5:=hid (show mK keep n2 (l'.take j ++ l'.drop (j+1))=res by rw[<-HP.out,if_pos (by omega),if_neg (by omega)]);generalize l'.take j ++ l'.drop (j+1)=l5 at R5 G5 HP5 hl6 hl7 |-;clear hr5 ho5 hg5 hl5;go_wp2;go_roundw
    case rel=>exact⟨n2,l5,by omega,HP5.out,rfl,R5.out,G5.out,hl6,O5.out⟩
    case measure=>simpa [sliceLen] using hl7
  ·have q1:decide (keep<(l'.length:Int))=false:=dD hgt
   go_wp2_with fail
   go_ret2;obtain rfl:l'=res:=by rw[<-HP.out,if_neg (by omega)]
   exact⟨⟨g,cap2,rfl,HGE.out,RR.out⟩,OO.out⟩
theorem pSystem {w:World} {p:Option Addr} {n cap:Nat} {l:List Cd} (hv:aR iR 5 w p n cap l) (hg:Gd l) (h0:0<l.length)  :
  Calls Tryz.prog 263 #[.slice p n cap] w fun e w'=>e=.returned (.tuple #[.int .i64 ((tJ l).headD default).id,.bool true])/\Only [] w w':=by
 have hln:=hv.len;subst hln;have HO:=hid (QB hv hg h0);have hl:=(iZ l).length_eq;obtain⟨l2,hl2⟩:∃ l2,tJ l=l2:=⟨_,rfl⟩;rw[hl2] at hl |-;have HL2:=hid hl2;have h2:0<l2.length:=by omega
 have he:l2.headD default=l2[0]:=by cases l2 with|nil=>simp at h2|cons=>rfl
 rw[he];clear hl2 hv hg;go_enter Tryz.func263,Tryz.ntmps263
 go_wp2_with fail
 refine HO.out.mono ?_;rintro e w2 ⟨⟨g,c2,rfl,hge,hr⟩,ho2⟩;have OO:=hid ho2;rw[HL2.out] at hr |-;obtain⟨b,off,hp,hb,HC⟩:=(hr.dI dN rfl).at h2;obtain⟨rfl,rfl⟩:g=b/\0=off:=by simpa using hp
 have c:=HC 0 h2 w2 (Only.refl [] w2);simp only[Nat.zero_mul,Nat.add_zero] at c;have q1:((l2.length:Int) == 0)=false:=by rw[beq_eq_false_iff_ne];omega
 have q2:(0:Int)<(l2.length:Int):=by omega
 clear HC hr ho2 HL2;go_wp2;go_ret2;exact⟨rfl,OO.out⟩
end
section
open Go.RowKit
def kJ (c:Cd):Int:=max 1 (1073741824 / (c.dist / 1000+1))
theorem pU {c:Cd} (h:BL c=true):1<=kJ c/\kJ c<=1073741824:=by
 have hb:=iH h;unfold kJ;have h0:0<=c.dist / 1000:=Int.ediv_nonneg hb.2.2.2.2.1 (by omega);have h1:1073741824 / (c.dist / 1000+1)<=1073741824:=Int.ediv_le_self _ (by omega);omega
def dL (l:List Cd):Int:=(l.map kJ).sum
theorem nX:∀ {l:List Cd},(∀ c∈l,BL c=true)->(l.length:Int)<=dL l/\dL l<=l.length*1073741824/\∀ c∈l,kJ c<=dL l
 | [],_=>⟨by simp[dL],by simp[dL],by simp⟩
 | c::r,h=>by
  obtain⟨h1,h2,h3⟩:=nX (l:=r) (fun x hx=>h x (List.mem_cons_of_mem _ hx));obtain⟨h4,h5⟩:=pU (h c (mem_cons_self ..));have e:dL (c::r)=kJ c+dL r:=by simp[dL]
  rw[e];refine⟨by simp only[length_cons];omega,by simp only[length_cons];push_cast;rw[Int.add_mul];omega,fun x hx=>?_⟩;rcases List.mem_cons.1 hx with rfl|hx
  ·omega
  ·have:=h3 x hx;omega
def WtI (w:World) (l:List Cd) (vo vi:Value) (wr:World):Prop:=
 ∃ k:Nat,k<=l.length/\vi=.int .i64 k/\Own fA 3 1 w.heap.size wr vo ((l.take k).map kJ)/\Only [] w wr
theorem JU {w:World} {p:Option Addr} {n cap:Nat} {l:List Cd} (hv:aR iR 5 w p n cap l) (hg:Gd l) :
  Calls Tryz.prog 286 #[.slice p n cap] w fun e w'=>PeR w (l.map kJ) e w'/\Only [] w w':=by
 have hln:=hv.len;subst hln;have hlb:=hg.len;have hck:=tF hv (by omega);rw[mD.2 hg] at hck;have HCK:=hid hck;have HV:=hid hv;have HG:=hid hg;clear hv hg hck;go_enter Tryz.func286,Tryz.ntmps286
 go_wp2_with fail
 refine HCK.out.mono ?_;rintro e w1 ⟨rfl,ho1⟩;have O1:=hid ho1;clear ho1 HCK;go_wp2_with fail
 go_loopw [3,11] (fun vo vi wr=>WtI w l vo vi wr) (fun _ vi _=>l.length-(intOf vi).toNat)
 case atStart=>exact⟨0,Nat.zero_le _,rfl,bU _ _,O1.out⟩
 case round =>
  obtain⟨k,hk,rfl,hown,ho⟩:=hrel;have OW:=hid hown;have OO:=hid ho;clear hown ho;by_cases hlt:k<l.length
  ·obtain⟨bk,off,hp,hb,c0,c1,c2,c3,c4⟩:=HV.out.cd OO.out hlt
   subst hp;have hle:=OO.out.size;have hb':bk<wr.heap.size:=by omega
   have hok:=HG.out.ok _ (getElem_mem hlt);have hbd:=iH hok;have hwb:=pU hok
   have HSN:Hid ((l.take (k+1)).map kJ=(l.take k).map kJ ++ [kJ l[k]]):=hid (by
    rw[List.take_succ_eq_append_getElem hlt,List.map_append];rfl)
   have hfl2:((l.take k).map kJ).length<=k:=by rw[length_map,length_take];omega
   generalize (l.take k).map kJ=acc at OW HSN hfl2;have hwt:kJ l[k]=max 1 (1073741824 / (l[k].dist / 1000+1)):=rfl;generalize kJ l[k]=wt at HSN hwb hwt;generalize l[k]=x at c0 c1 c2 c3 c4 hbd hwt;obtain⟨id,of,di,ji,st⟩:=x;dsimp only at c0 c1 c2 c3 c4 hbd hwt;obtain⟨_,_,_,_,b1,b2,_⟩:=hbd;clear hok;obtain⟨x1,hx1⟩:∃ x1,di / 1000=x1:=⟨_,rfl⟩;have hx1b:0<=x1/\x1<=9007199254740992:=by omega
   obtain⟨y1,hy1⟩:∃ y1,1073741824 / (x1+1)=y1:=⟨_,rfl⟩;rw[hx1,hy1] at hwt;obtain⟨x1n,x1p⟩:=hx1b;have hd0:((x1+1:Int) == 0)=false:=by rw[beq_eq_false_iff_ne];omega
   obtain⟨pp,cap',rfl,_⟩:=Own.dI (enc:=fA) (s:=1) dG OW.out;go_upto_region 7 with (fail)
   refine aF (G:=fun w0=>Code.wp _ _ _ _ w0) ?_;intro w2 hb1 ho1 hs1;have B2:=hid hb1;have O2:=hid (OO.out.aA ho1);have W2:=hid (OW.out.kept ho1);clear hb1 ho1 hs1 c0 c1 c2 c3 c4 OO OW;have k2:=aB B2.out 2;have lk:=aD B2.out;have HWT:=hid hwt;clear hwt;go_wp2_with (at_builtin;refine aV ?_)
   refine aF (G:=fun w0=>Stop (wpList _ _ _ _ _ w0)) ?_;intro w5 hb5 ho5 hs5;have B5:=hid hb5;have O5:=hid (O2.out.aA ho5);have R5:=hid (W2.out.kept ho5);clear hb5 ho5 hs5 k2 lk;refine bD ?_;refine bH (w0:=w) rfl _ _ 52 rfl 3 (.int .i64 0) 1 8 Tryz.underlying52 (by kernel_rfl) rfl (by decide) fA dG nI acc _ rfl R5.out w2.heap.size wt rfl (fun j u hj=>?_) (by simp[maxLen];omega) (by omega) O5.out ?_
   ·rw[aB B5.out,<-hj,HWT.out];simp[fA]
   intro v6 w6 hown6 ho6 _;have W6:=hid hown6;have O6:=hid ho6;clear hown6 ho6;go_wp2;go_roundw
   case rel=>exact⟨k+1,by omega,by go_num,by rw[HSN.out];exact W6.out,O6.out⟩
   case measure=>first|(simp[intOf];done)|(simp[intOf];omega)
  ·have HC:Hid ((l.take k).map kJ=l.map kJ):=hid (by rw[take_of_length_le (by omega)])
   rw[HC.out] at OW;go_wp2;go_ret
   exact⟨⟨_,rfl,OW.out⟩,OO.out⟩
def S9 (val:Cd->Int) (tot:Int) (c:Cd):Int:=kJ c*val c / tot
def ws (val:Cd->Int) (tot:Int) (l:List Cd):Int:=(l.map (S9 val tot)).sum
def lK (first:Int) (c:Cd):Int:=c.off-first
def xW (mean:Int) (c:Cd):Int:=(xG c.off mean:Int)
def gU (l:List Cd):Int:=(l.headD default).off+ws (lK (l.headD default).off) (dL l) l
def wN (l:List Cd):Int:=(UA (ws (xW (gU l)) (dL l) l).toNat:Int)
theorem OT (val:Cd->Int) (tot:Int) (l:List Cd) (c:Cd):ws val tot (l ++ [c])=ws val tot l+S9 val tot c:=by simp[ws]
theorem JD (l:List Cd) (c:Cd):dL (l ++ [c])=dL l+kJ c:=by simp[dL]
theorem ws_bd {val:Cd->Int} {tot B:Int} (ht:0<tot):∀ {l:List Cd},(∀ c∈l,BL c=true/\ -B<=val c/\val c<=B)->tot*ws val tot l<=B*dL l/\ -(B*dL l)-l.length*tot<=tot*ws val tot l
 | [],_=>by simp[ws,dL]
 | c::r,h=>by
  have hr:=ws_bd ht (l:=r) (fun x hx=>h x (List.mem_cons_of_mem _ hx));obtain⟨h1,h2,h3⟩:=h c (mem_cons_self ..);have hw:=pU h1;have e:ws val tot (c::r)=S9 val tot c+ws val tot r:=by simp[ws]
  have e2:dL (c::r)=kJ c+dL r:=by simp[dL]
  have a1:tot*(kJ c*val c / tot)<=kJ c*val c:=Int.mul_ediv_self_le (by omega);have a2:kJ c*val c<tot*(kJ c*val c / tot)+tot:=Int.lt_mul_ediv_self_add ht;have a3:kJ c*val c<=kJ c*B:=Int.mul_le_mul_of_nonneg_left h3 (by omega);have a4:kJ c* -B<=kJ c*val c:=Int.mul_le_mul_of_nonneg_left h2 (by omega);rw[e,e2,Int.mul_add,Int.mul_add,length_cons];unfold S9;have e3:((r.length+1:Nat):Int)*tot=r.length*tot+tot:=by push_cast;rw[Int.add_mul,Int.one_mul]
  rw[e3];rw[Int.mul_neg] at a4;rw[Int.mul_comm (kJ c) B] at a3 a4;omega
theorem VR {l:List Cd} (h:∀ c∈l,BL c=true) (k:Nat):dL (l.take k)<=dL l/\0<=dL (l.take k):=by
 have e:dL l=dL (l.take k)+dL (l.drop k):=by
  have:dL (l.take k ++ l.drop k)=dL (l.take k)+dL (l.drop k):=by simp only[dL,List.map_append,List.sum_append]
  rwa [List.take_append_drop] at this
 have h1:=(nX (l:=l.drop k) (fun c hc=>h c (List.mem_of_mem_drop hc))).1;have h2:=(nX (l:=l.take k) (fun c hc=>h c (mem_of_mem_take hc))).1;omega
theorem yT {val:Cd->Int} {B:Int} {l:List Cd} (hB:0<=B) (h0:0<l.length) (h:∀ c∈l,BL c=true/\ -B<=val c/\val c<=B) (k:Nat): -(B+l.length)<=ws val (dL l) (l.take k)/\ws val (dL l) (l.take k)<=B:=by
 have hk:=fun c hc=>(h c hc).1;have ht:=(nX hk).1;have hp:0<dL l:=by omega
 obtain⟨a,b⟩:=ws_bd (val:=val) (tot:=dL l) (B:=B) hp (l:=l.take k) (fun c hc=>h c (mem_of_mem_take hc));obtain⟨c,d⟩:=VR hk k;have e:=Int.mul_le_mul_of_nonneg_left c hB;have hl:((l.take k).length:Int)<=l.length:=by rw[length_take];omega
 have f:=Int.mul_le_mul_of_nonneg_right hl (Int.le_of_lt hp);constructor
 ·refine Int.le_of_mul_le_mul_left (a:=dL l) ?_ hp
  rw[Int.mul_neg,Int.mul_add,Int.mul_comm (dL l) B,Int.mul_comm (dL l) (l.length:Int)];omega
 ·refine Int.le_of_mul_le_mul_left (a:=dL l) ?_ hp
  rw[Int.mul_comm (dL l) B];omega
theorem aR.i64 {w w':World} {p:Option Addr} {n cap:Nat} {l:List Int} (hv:aR fA 1 w p n cap l) (ho:Only [] w w') {k:Nat} (hlt:k<l.length):∃ b off,p=some ⟨b,off,none⟩/\b<w.heap.size /\
  w'.cell? ⟨b,off+k,none⟩=some (.int .i64 l[k]):=by
 obtain⟨b,off,hp,hb,hc⟩:=hv.cell k l[k] (List.getElem?_eq_getElem hlt);refine⟨b,off,hp,hb,?_⟩;rw[ho.cell hb (by simp)];have:=hc 0 _ rfl;simpa using this
theorem pMean1 {w:World} {b:Nat} {x:Int} (hb:w.heap[b]? = some (.cells #[.int .i64 x] 3 (0,0))) (c:Cd) (hc:BL c=true) (h0: -4503599627370496<=x) (h1:x<=4503599627370496)  :
  Calls Tryz.prog 259 #[xQ c,.pointer (some ⟨b,0,none⟩)] w fun e w'=>e=.returned (.int .i64 (lK x c))/\Only [] w w':=by
 have hbd:=iH hc;obtain⟨id,of,di,ji,st⟩:=c;unfold xQ;dsimp only at hbd |-;obtain⟨_,_,b1,b2,_⟩:=hbd;have r1:IntKind.i64.wrap (of-x)=of-x:=by rw[wrap_i64];omega
 unfold lK;dsimp only;clear hc h0 h1 b1 b2;have m:=jZ hb;have k:=m.out.k;clear hb;go_enter Tryz.func259,Tryz.ntmps259
 go_wp2_with (first|((with_reducible refine wU ?_);clear k m;intro w m k)|((with_reducible refine lF (fun w _=>⟨rfl,?_⟩));simp[results,Tryz.results259,go_sem]))
theorem TN (c:Cd) (hc:BL c=true) (x:Int) (h0: -112589990684262400<=x) (h1:x<=112589990684262400) (w:World) :
  Calls Tryz.prog 290 #[xQ c,.int .i64 x] w fun e w'=>e=.returned (.int .i64 (c.off-x).natAbs)/\Only [] w w':=by
 have hbd:=iH hc;obtain⟨id,of,di,ji,st⟩:=c;unfold xQ;dsimp only at hbd |-;obtain⟨_,_,b1,b2,_⟩:=hbd;have r1:IntKind.i64.wrap (of-x)=of-x:=by rw[wrap_i64];omega
 have HA:=hid (fun w=>jA (fabs (of-x) w (by omega) (by omega)));clear hc h0 h1 b1 b2;have m:=bJ w [];have k:=m.out.k;go_enter Tryz.func290,Tryz.ntmps290
 go_wp2_with (first|((with_reducible first|refine cM (HA.out _) ?_|refine wU ?_);clear k m;intro w m k)|((with_reducible refine lF (fun w _=>⟨rfl,?_⟩));simp[results,Tryz.results290,go_sem]))
theorem pJit1 {w:World} {b:Nat} {x:Int} (hb:w.heap[b]? = some (.cells #[.int .i64 x] 3 (0,0))) (c:Cd) (hc:BL c=true) (h0: -112589990684262400<=x) (h1:x<=112589990684262400)  :
  Calls Tryz.prog 289 #[xQ c,.pointer (some ⟨b,0,none⟩)] w fun e w'=>e=.returned (.int .i64 (xW x c))/\Only [] w w':=by
 have HD:=hid (TN c hc x h0 h1);have hm:=NC c.off x;have hq:=wB c.off x;have r1:IntKind.i64.wrap (xG c.off x:Int)=(xG c.off x:Int):=by rw[wrap_i64];omega
 unfold xW;generalize xG c.off x=q at hm r1 |-;generalize (c.off-x).natAbs=d at HD hm;obtain⟨id,of,di,ji,st⟩:=c;unfold xQ at HD |-;dsimp only at HD |-;clear hc h0 h1 hq;have m:=jZ hb;have k:=m.out.k;clear hb;go_enter Tryz.func289,Tryz.ntmps289
 go_wp2_with (first|((with_reducible first|refine cM (HD.out _) ?_|refine wU ?_);clear k m;intro w m k)|((with_reducible refine lF (fun w _=>⟨rfl,?_⟩));simp[results,Tryz.results289,go_sem]))
def W1I (w:World) (l:List Cd) (vt vi:Value) (wr:World):Prop:=
 ∃ k:Nat,k<=l.length/\vi=.int .i64 k/\vt=.int .i64 (dL (l.take k))/\Only [] w wr
def W2I (w:World) (l:List Cd) (val:Cd->Int) (tot:Int) (vs vi:Value) (wr:World):Prop:=
 ∃ k:Nat,k<=l.length/\vi=.int .i64 k/\vs=.int .i64 (ws val tot (l.take k))/\Only [] w wr
theorem QO {c:Cd} {x:Int} (h:BL c=true) (h0: -4503599627370496<=x) (h1:x<=4503599627370496): -9007199254740992<=lK x c/\lK x c<=9007199254740992:=by
 have:=iH h;unfold lK;omega
theorem VY {c:Cd} {x:Int} (_:BL c=true) (_: -112589990684262400<=x) (_:x<=112589990684262400): -1152921504606846976<=xW x c/\xW x c<=1152921504606846976:=by
 have:=wB c.off x;unfold xW;omega
theorem pWtMean {w:World} {p:Option Addr} {n cap b:Nat} {l:List Cd} {x:Int} (hv:aR iR 5 w p n cap l) (hg:Gd l) (hb:w.heap[b]? = some (.cells #[.int .i64 x] 3 (0,0))) (h00:0<l.length) (h0: -4503599627370496<=x) (h1:x<=4503599627370496) :
  Calls Tryz.prog 258 #[.slice p n cap,.func (.func 259) #[] #[.pointer (some ⟨b,0,none⟩)]] w fun e w'=>e=.returned (.int .i64 (ws (lK x) (dL l) l))/\Only [] w w':=by
 have hln:=hv.len;subst hln;have hlb:=hg.len;have HW:=hid (JU hv hg);have HVB:=hid (fun c (h:BL c=true)=>QO (x:=x) h h0 h1);have HWB:=hid (yT (val:=lK x) (B:=9007199254740992) (by decide) h00 (fun c hc=>⟨hg.ok c hc,HVB.out c (hg.ok c hc)⟩));clear h00;have HV:=hid hv;have HG:=hid hg;have BB:=hid hb;have HF:=hid (And.intro h0 h1);clear hv hg hb h0 h1;go_enter Tryz.func258,Tryz.ntmps258
 go_wp2_with fail
 refine HW.out.mono ?_;rintro e w1 ⟨⟨v1,rfl,hown⟩,ho1⟩;have O1:=hid ho1;obtain⟨pw,cw,rfl,hvw⟩:=Own.dI (enc:=fA) (s:=1) dG hown;rw[length_map] at hvw |-;have VW:=hid hvw;clear ho1 hown HW hvw;go_wp2_with fail
 go_loopw [6,18] (fun vt vi wr=>W1I w1 l vt vi wr) (fun _ vi _=>l.length-(intOf vi).toNat)
 case atStart=>exact⟨0,Nat.zero_le _,rfl,rfl,Only.refl _ _⟩
 case round =>
  obtain⟨k,hk,rfl,rfl,ho⟩:=hrel;have OO:=hid ho;clear ho;by_cases hlt:k<l.length
  ·obtain⟨bk,off,hp,hb,c0⟩:=VW.out.i64 (k:=k) OO.out (by rw[length_map];exact hlt)
   subst hp;have hle:=OO.out.size;have hb':bk<wr.heap.size:=by omega
   rw[List.getElem_map] at c0;have hwb:=pU (HG.out.ok _ (getElem_mem hlt))
   have HSN:Hid (dL (l.take (k+1))=dL (l.take k)+kJ l[k]):=hid (by
    rw[List.take_succ_eq_append_getElem hlt,JD])
   have htb:=nX (l:=l.take k) (fun c hc=>HG.out.ok c (mem_of_mem_take hc));rw[length_take,Nat.min_eq_left hk] at htb;obtain⟨tb1,tb2,_⟩:=htb;generalize dL (l.take k)=acc at HSN tb1 tb2 |-;generalize kJ l[k]=wt at HSN c0 hwb;have tb3:acc<=12884901888:=by omega
   clear tb2;go_wp2_with fail
   go_roundw
   case rel=>exact⟨k+1,by omega,by go_num,by rw[HSN.out],OO.out⟩
   case measure=>first|(simp[intOf];done)|(simp[intOf];omega)
  ·have HC:Hid (l.take k=l):=hid (take_of_length_le (by omega))
   have htb:=nX HG.out.ok;rw[HC.out];obtain⟨tot,htot⟩:∃ tot,dL l=tot:=⟨_,rfl⟩;rw[htot] at htb |-;have HT:=hid htb;have HTO:=hid htot;have ht2:tot<17179869184:=by have:=htb.2.1;omega
   have VX:=hid (VW.out.kept OO.out);have HVX:=hid (HV.out.kept (O1.out.aA OO.out));have BX:=hid ((O1.out.aA OO.out).got BB.out (by simp));have OX:=hid (O1.out.aA OO.out);clear htb htot HC VW HV BB O1 OO;obtain⟨wo,hwo⟩:∃ wo:World,wo=wr:=⟨_,rfl⟩;subst hwo;go_wp2_with fail
   clear hk hlt;go_loopw [9,28] (fun vs vi wr=>W2I wo l (lK x) tot vs vi wr) (fun _ vi _=>l.length-(intOf vi).toNat)
   case atStart=>exact⟨0,Nat.zero_le _,rfl,rfl,Only.refl _ _⟩
   case round =>
    obtain⟨k,hk,rfl,rfl,ho⟩:=hrel;have OO:=hid ho;clear ho;by_cases hlt:k<l.length
    ·obtain⟨bw,ow,hp,hb,d0⟩:=VX.out.i64 (k:=k) OO.out (by rw[length_map];exact hlt)
     subst hp;obtain⟨bk,off,hp,hb2,c0,c1,c2,c3,c4⟩:=HVX.out.cd OO.out hlt;subst hp;have hle:=OO.out.size;have hb':bw<wr.heap.size:=by omega
     have hb2':bk<wr.heap.size:=by omega
     rw[List.getElem_map] at d0;have hxo:=HG.out.ok _ (getElem_mem hlt);have hwb:=pU hxo;have hwt:kJ l[k]<=tot:=HT.out.2.2 _ (getElem_mem hlt);have hxb:=iH hxo
     have HSN:Hid (ws (lK x) tot (l.take (k+1))=ws (lK x) tot (l.take k)+kJ l[k]*lK x l[k] / tot):=hid (by
      rw[List.take_succ_eq_append_getElem hlt,OT];rfl)
     have hpb:=HWB.out k;have hpb2:=HWB.out (k+1);have hvb:=HVB.out l[k] hxo;rw[HTO.out] at hpb hpb2;rw[HSN.out] at hpb2;have hprt: -9223372036854775808<=kJ l[k]*lK x l[k] / tot/\kJ l[k]*lK x l[k] / tot<=9223372036854775807:=by omega
     have hpr1:=fZ hprt.1 hprt.2;have HM1:=hid (fun w' (ho:Only [] wo w')=>pMean1 (ho.got BX.out (by simp)) l[k] hxo HF.out.1 HF.out.2);have HMD:=hid (fun w'=>jS (l9 (kJ l[k]) (lK x l[k]) tot w' (by omega) (by omega) (by omega) (by omega) (by omega) (by omega)));rw[hpr1] at HMD;generalize ws (lK x) tot (l.take k)=acc at HSN hpb hpb2 |-;generalize kJ l[k]*lK x l[k] / tot=pr at HSN hprt HMD hpb2;have r1:IntKind.i64.wrap (acc+pr)=acc+pr:=by rw[wrap_i64];omega
     clear hpr1;generalize kJ l[k]=wt at d0 HMD;generalize l[k]=x at c0 c1 c2 c3 c4 HM1 HMD;obtain⟨id,of,di,ji,st⟩:=x;unfold xQ at HM1;dsimp only at c0 c1 c2 c3 c4 HM1 HMD;generalize lK x ⟨id,of,di,ji,st⟩=df at HM1 HMD;generalize NH pr=okb at HMD;clear hpb hpb2 hvb hprt hxo hwb hwt hxb;go_wp2_with fail
     refine (HM1.out wr OO.out).mono ?_;rintro e w3 ⟨rfl,ho3⟩;have O3:=hid (OO.out.aA ho3);clear ho3 HM1 OO c0 c1 c2 c3 c4 d0 hb' hb2';go_wp2_with fail
     refine (HMD.out w3).mono ?_;rintro e w4 ⟨rfl,ho4⟩;have O4:=hid (O3.out.aA ho4);clear ho4;clear HMD O3;go_wp2;go_roundw
     case rel=>exact⟨k+1,by omega,by go_num,by rw[HSN.out],O4.out⟩
     case measure=>first|(simp[intOf];done)|(simp[intOf];omega)
    ·have HC:Hid (l.take k=l):=hid (take_of_length_le (by omega))
     rw[HC.out];go_wp2;go_ret
     exact⟨by rw[HTO.out];rfl,OX.out.aA OO.out⟩
theorem pWtJit {w:World} {p:Option Addr} {n cap b:Nat} {l:List Cd} {x:Int} (hv:aR iR 5 w p n cap l) (hg:Gd l) (hb:w.heap[b]? = some (.cells #[.int .i64 x] 3 (0,0))) (h00:0<l.length) (h0: -112589990684262400<=x) (h1:x<=112589990684262400) :
  Calls Tryz.prog 258 #[.slice p n cap,.func (.func 289) #[] #[.pointer (some ⟨b,0,none⟩)]] w fun e w'=>e=.returned (.int .i64 (ws (xW x) (dL l) l))/\Only [] w w':=by
 have hln:=hv.len;subst hln;have hlb:=hg.len;have HW:=hid (JU hv hg);have HVB:=hid (fun c (h:BL c=true)=>VY (x:=x) h h0 h1);have HWB:=hid (yT (val:=xW x) (B:=1152921504606846976) (by decide) h00 (fun c hc=>⟨hg.ok c hc,HVB.out c (hg.ok c hc)⟩));clear h00;have HV:=hid hv;have HG:=hid hg;have BB:=hid hb;have HF:=hid (And.intro h0 h1);clear hv hg hb h0 h1;go_enter Tryz.func258,Tryz.ntmps258
 go_wp2_with fail
 refine HW.out.mono ?_;rintro e w1 ⟨⟨v1,rfl,hown⟩,ho1⟩;have O1:=hid ho1;obtain⟨pw,cw,rfl,hvw⟩:=Own.dI (enc:=fA) (s:=1) dG hown;rw[length_map] at hvw |-;have VW:=hid hvw;clear ho1 hown HW hvw;go_wp2_with fail
 go_loopw [6,18] (fun vt vi wr=>W1I w1 l vt vi wr) (fun _ vi _=>l.length-(intOf vi).toNat)
 case atStart=>exact⟨0,Nat.zero_le _,rfl,rfl,Only.refl _ _⟩
 case round =>
  obtain⟨k,hk,rfl,rfl,ho⟩:=hrel;have OO:=hid ho;clear ho;by_cases hlt:k<l.length
  ·obtain⟨bk,off,hp,hb,c0⟩:=VW.out.i64 (k:=k) OO.out (by rw[length_map];exact hlt)
   subst hp;have hle:=OO.out.size;have hb':bk<wr.heap.size:=by omega
   rw[List.getElem_map] at c0;have hwb:=pU (HG.out.ok _ (getElem_mem hlt))
   have HSN:Hid (dL (l.take (k+1))=dL (l.take k)+kJ l[k]):=hid (by
    rw[List.take_succ_eq_append_getElem hlt,JD])
   have htb:=nX (l:=l.take k) (fun c hc=>HG.out.ok c (mem_of_mem_take hc));rw[length_take,Nat.min_eq_left hk] at htb;obtain⟨tb1,tb2,_⟩:=htb;generalize dL (l.take k)=acc at HSN tb1 tb2 |-;generalize kJ l[k]=wt at HSN c0 hwb;have tb3:acc<=12884901888:=by omega
   clear tb2;go_wp2_with fail
   go_roundw
   case rel=>exact⟨k+1,by omega,by go_num,by rw[HSN.out],OO.out⟩
   case measure=>first|(simp[intOf];done)|(simp[intOf];omega)
  ·have HC:Hid (l.take k=l):=hid (take_of_length_le (by omega))
   have htb:=nX HG.out.ok;rw[HC.out];obtain⟨tot,htot⟩:∃ tot,dL l=tot:=⟨_,rfl⟩;rw[htot] at htb |-;have HT:=hid htb;have HTO:=hid htot;have ht2:tot<17179869184:=by have:=htb.2.1;omega
   have VX:=hid (VW.out.kept OO.out);have HVX:=hid (HV.out.kept (O1.out.aA OO.out));have BX:=hid ((O1.out.aA OO.out).got BB.out (by simp));have OX:=hid (O1.out.aA OO.out);clear htb htot HC VW HV BB O1 OO;obtain⟨wo,hwo⟩:∃ wo:World,wo=wr:=⟨_,rfl⟩;subst hwo;go_wp2_with fail
   clear hk hlt;go_loopw [9,28] (fun vs vi wr=>W2I wo l (xW x) tot vs vi wr) (fun _ vi _=>l.length-(intOf vi).toNat)
   case atStart=>exact⟨0,Nat.zero_le _,rfl,rfl,Only.refl _ _⟩
   case round =>
    obtain⟨k,hk,rfl,rfl,ho⟩:=hrel;have OO:=hid ho;clear ho;by_cases hlt:k<l.length
    ·obtain⟨bw,ow,hp,hb,d0⟩:=VX.out.i64 (k:=k) OO.out (by rw[length_map];exact hlt)
     subst hp;obtain⟨bk,off,hp,hb2,c0,c1,c2,c3,c4⟩:=HVX.out.cd OO.out hlt;subst hp;have hle:=OO.out.size;have hb':bw<wr.heap.size:=by omega
     have hb2':bk<wr.heap.size:=by omega
     rw[List.getElem_map] at d0;have hxo:=HG.out.ok _ (getElem_mem hlt);have hwb:=pU hxo;have hwt:kJ l[k]<=tot:=HT.out.2.2 _ (getElem_mem hlt);have hxb:=iH hxo
     have HSN:Hid (ws (xW x) tot (l.take (k+1))=ws (xW x) tot (l.take k)+kJ l[k]*xW x l[k] / tot):=hid (by
      rw[List.take_succ_eq_append_getElem hlt,OT];rfl)
     have hpb:=HWB.out k;have hpb2:=HWB.out (k+1);have hvb:=HVB.out l[k] hxo;rw[HTO.out] at hpb hpb2;rw[HSN.out] at hpb2;have hprt: -9223372036854775808<=kJ l[k]*xW x l[k] / tot/\kJ l[k]*xW x l[k] / tot<=9223372036854775807:=by omega
     have hpr1:=fZ hprt.1 hprt.2;have HM1:=hid (fun w' (ho:Only [] wo w')=>pJit1 (ho.got BX.out (by simp)) l[k] hxo HF.out.1 HF.out.2);have HMD:=hid (fun w'=>jS (l9 (kJ l[k]) (xW x l[k]) tot w' (by omega) (by omega) (by omega) (by omega) (by omega) (by omega)));rw[hpr1] at HMD;generalize ws (xW x) tot (l.take k)=acc at HSN hpb hpb2 |-;generalize kJ l[k]*xW x l[k] / tot=pr at HSN hprt HMD hpb2;have r1:IntKind.i64.wrap (acc+pr)=acc+pr:=by rw[wrap_i64];omega
     clear hpr1;generalize kJ l[k]=wt at d0 HMD;generalize l[k]=x at c0 c1 c2 c3 c4 HM1 HMD;obtain⟨id,of,di,ji,st⟩:=x;unfold xQ at HM1;dsimp only at c0 c1 c2 c3 c4 HM1 HMD;generalize xW x ⟨id,of,di,ji,st⟩=df at HM1 HMD;generalize NH pr=okb at HMD;clear hpb hpb2 hvb hprt hxo hwb hwt hxb;go_wp2_with fail
     refine (HM1.out wr OO.out).mono ?_;rintro e w3 ⟨rfl,ho3⟩;have O3:=hid (OO.out.aA ho3);clear ho3 HM1 OO c0 c1 c2 c3 c4 d0 hb' hb2';go_wp2_with fail
     refine (HMD.out w3).mono ?_;rintro e w4 ⟨rfl,ho4⟩;have O4:=hid (O3.out.aA ho4);clear ho4;clear HMD O3;go_wp2;go_roundw
     case rel=>exact⟨k+1,by omega,by go_num,by rw[HSN.out],O4.out⟩
     case measure=>first|(simp[intOf];done)|(simp[intOf];omega)
    ·have HC:Hid (l.take k=l):=hid (take_of_length_le (by omega))
     rw[HC.out];go_wp2;go_ret
     exact⟨by rw[HTO.out];rfl,OX.out.aA OO.out⟩
theorem zD {l:List Cd} (hg:Gd l) (h0:0<l.length): -112589990684262400<=gU l/\gU l<=112589990684262400/\ -4503599627370496<=(l.headD default).off/\(l.headD default).off<=4503599627370496/\ -9007199254740992-12<=ws (lK (l.headD default).off) (dL l) l/\ws (lK (l.headD default).off) (dL l) l<=9007199254740992:=by
 have hc:=iH (hg.ok _ (getElem_mem h0));have he:l.headD default=l[0]:=by cases l with|nil=>simp at h0|cons=>rfl
 have h:=yT (val:=lK (l.headD default).off) (B:=9007199254740992) (by decide) h0 (fun c hc'=>⟨hg.ok c hc',QO (hg.ok c hc') (by rw[he];omega) (by rw[he];omega)⟩) l.length;rw[take_length] at h;have hl:=hg.len;unfold gU;rw[he] at h |-;omega
theorem pMean {w:World} {p:Option Addr} {n cap:Nat} {l:List Cd} (hv:aR iR 5 w p n cap l) (hg:Gd l) (h0:0<l.length)  :
  Calls Tryz.prog 240 #[.slice p n cap] w fun e w'=>e=.returned (.tuple #[.int .i64 (gU l),.int .i64 0])/\Only [] w w':=by
 have hln:=hv.len;subst hln;have hlb:=hg.len;obtain⟨hm1,hm2,f0,f1,hw1,hw2⟩:=zD hg h0;have HCK:=hid (fun w' (o:Only [] w w')=>(by have h:=tF (hv.kept o) (by omega);rwa [mD.2 hg] at h:Calls Tryz.prog 250 #[.slice p l.length cap] w' fun e w2=>e=.returned (.int .i64 0)/\Only [] w' w2));have he:l.headD default=l[0]:=by cases l with|nil=>simp at h0|cons=>rfl
 have HW:=hid (fun w' b (o:Only [] w w') hb=>pWtMean (w:=w') (b:=b) (x:=(l.headD default).off) (hv.kept o) hg hb h0 f0 f1);obtain⟨b,off,rfl,hb,HC⟩:=hv.at h0;have HX:=hid (HC 0 h0);rw[Nat.zero_mul,Nat.add_zero,<-he] at HX;clear he;unfold gU at hm1 hm2 |-;generalize l.headD default=z at HW HX hm1 hm2 hw1 hw2 |-;obtain⟨zi,x,zd,zj,zs⟩:=z;dsimp only at HW HX hm1 hm2 hw1 hw2 |-;generalize ws (lK x) (dL l) l=s at HW hm1 hm2 hw1 hw2 |-;have r1:IntKind.i64.wrap (x+s)=x+s:=by rw[wrap_i64];omega
 have hne:((l.length:Int) == 0)=false:=by rw[beq_eq_false_iff_ne];omega
 have hl0:(0:Int)<(l.length:Int):=by omega
 clear hv hg HC hm1 hm2 f0 f1 hw1 hw2;obtain⟨wo,hwo⟩:∃ wo:World,wo=w:=⟨_,rfl⟩;subst hwo;have m:=bJ wo [];have k:=m.out.k;have c:=HX.out wo (Only.refl [] wo);go_enter Tryz.func240,Tryz.ntmps240
 go_wp2_with (first|((with_reducible first|refine cU ?_|refine cM (HCK.out _ gO) ?_|refine wU ?_);clear k m c;intro w m k;have c:=HX.out w m.out.only)|((with_reducible refine rG (id:=7) [0,1,2,3,4,5,6] [] (by kernel_rfl) (by kernel_rfl) ?_);simp only[pick,map_cons,map_nil,List.getD_cons_succ,List.getD_cons_zero];(repeat' (first|go_big_quiet_step (with_reducible first|exact gX (HW.out _ _ U8 gP))|(refine wpQuiet_step (fun K hK=>?_);go_simp;(first|(refine hK _ ?_;clear hK K)|(split<;>(refine hK _ ?_;clear hK K))))));all_goals (refine wpQuiet_nil ?_;clear k m c;intro w m k;have c:=HX.out w m.out.only))|((with_reducible refine lF (fun w _=>⟨rfl,?_⟩));simp[results,Tryz.results240,go_sem]))
theorem ZN {l:List Cd} (hg:Gd l) (h0:0<l.length):0<=wN l/\wN l<=4294967296/\ -1152921504606846976-12<=ws (xW (gU l)) (dL l) l/\ws (xW (gU l)) (dL l) l<=1152921504606846976:=by
 obtain⟨m1,m2,_⟩:=zD hg h0;have h:=yT (val:=xW (gU l)) (B:=1152921504606846976) (by decide) h0 (fun c hc'=>⟨hg.ok c hc',VY (hg.ok c hc') m1 m2⟩) l.length;rw[take_length] at h;have hl:=hg.len;have hi:=isq_bd (ws (xW (gU l)) (dL l) l).toNat (by omega);unfold wN;omega
theorem ws_nn {val:Cd->Int} {tot:Int} (ht:0<=tot):∀ {l:List Cd},(∀ c∈l,BL c=true/\0<=val c)->0<=ws val tot l
 | [],_=>by simp[ws]
 | c::r,h=>by
  have hr:=ws_nn ht (l:=r) (fun x hx=>h x (List.mem_cons_of_mem _ hx));obtain⟨h1,h2⟩:=h c (mem_cons_self ..);have hw:=pU h1;have e:ws val tot (c::r)=S9 val tot c+ws val tot r:=by simp[ws]
  have:=Int.ediv_nonneg (Int.mul_nonneg (show 0<=kJ c by omega) h2) ht;rw[e];unfold S9;omega
theorem pJitter {w:World} {p:Option Addr} {n cap:Nat} {l:List Cd} (hv:aR iR 5 w p n cap l) (hg:Gd l) (h0:0<l.length)  :
  Calls Tryz.prog 261 #[.slice p n cap] w fun e w'=>e=.returned (.int .i64 (wN l))/\Only [] w w':=by
 have hln:=hv.len;subst hln;have hlb:=hg.len;obtain⟨m1,m2,_⟩:=zD hg h0;obtain⟨_,_,hj3,hj4⟩:=ZN hg h0;have hnn:=ws_nn (val:=xW (gU l)) (tot:=dL l) (by have:=(nX hg.ok).1;omega) (l:=l) (fun c hc=>⟨hg.ok c hc,by unfold xW;omega⟩);have HM:=hid (fun w' (o:Only [] w w')=>pMean (hv.kept o) hg h0);have HW:=hid (fun w' b (o:Only [] w w') hb=>pWtJit (w:=w') (b:=b) (x:=gU l) (hv.kept o) hg hb h0 m1 m2);unfold wN;generalize gU l=x at HM HW hnn hj3 hj4 |-;generalize ws (xW x) (dL l) l=s at HW hnn hj3 hj4 |-;obtain⟨q,rfl⟩:∃ q:Nat,s=(q:Int):=⟨s.toNat,by omega⟩;rw[Int.toNat_natCast];have HS:=hid (fun w=>jA (ZX q w (by omega)));clear hv hg m1 m2 hnn hj3 hj4;obtain⟨wo,hwo⟩:∃ wo:World,wo=w:=⟨_,rfl⟩;subst hwo;have m:=bJ wo [];have k:=m.out.k;go_enter Tryz.func261,Tryz.ntmps261
 go_wp2_with (first|((with_reducible first|refine cU ?_|refine cM (HM.out _ gO) ?_|refine cM (HW.out _ _ gO gB) ?_|refine cM (HS.out _) ?_|refine wU ?_);clear k m;intro w m k)|((with_reducible refine lF (fun w _=>⟨rfl,?_⟩));simp[results,Tryz.results261,go_sem]))
end
end Go.Proofs.YtppjhbjmfkiejaaGreat
