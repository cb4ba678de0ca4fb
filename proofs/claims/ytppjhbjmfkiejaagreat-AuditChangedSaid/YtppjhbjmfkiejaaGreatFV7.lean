/- Texts of one chain: E4, E5, E6. Conditions: those named in each theorem. -/
import Derived.Test.YtppjhbjmfkiejaaGreatFV5
import Derived.Test.YtppjhbjmfkiejaaGreatFV2
import Derived.Test.YtppjhbjmfkiejaaGreatFV6
namespace Go.Proofs.YtppjhbjmfkiejaaGreat
open List (getElem_mem length_cons length_map length_take mem_cons_self mem_of_mem_take take_length take_of_length_le)
open IntKind (wrap_i64 wrap_u64)
open IntKind (wrap)
set_option maxRecDepth 100000
set_option maxHeartbeats 4000000
section
open Go.RowKit Go.Sort
def uM (l:List Cd):List Cd:=(Sort.insertionSort (ltOf cfC) l.toArray 0 l.length).toList
theorem jG (l:List Cd):(uM l).Perm l:=by
 have h:=(insertionSort_holds (lt:=ltOf cfC) cfC_swo l.toArray 0 l.length (Nat.zero_le _) (by simp)).1;obtain⟨h1,_,h3⟩:=h;unfold uM;generalize Sort.insertionSort (ltOf cfC) l.toArray 0 l.length=d at h1 h3;have e1:d.extract 0 l.length=d:=by rw[show l.length=d.size by rw[h1];simp];simp
 have e2:l.toArray.extract 0 l.length=l.toArray:=by simp
 rw[e1,e2] at h3;simpa using h3
theorem sortf_x {w:World} {g cap:Nat} {l:List Cd} (h:aO iZ 382 5 w g cap l) (hl:l.length<=12) :
  Calls Tryz.prog 282 #[.slice (some ⟨g,0,none⟩) l.length cap,.func (.func 283) #[] #[]] w fun e w'=>e=.returned (.tuple #[])/\aO iZ 382 5 w' g cap (uM l)/\Oy [g] w w':=by
 obtain⟨cur,hg,h1,h2,h3,h4⟩:=h;have hfl:=pE iZ 5 dQ l
 have hold:HoldsK iZ 5 w g 0 l.toArray:=by
  intro j hj;rw[Nat.zero_add];refine⟨?_,aM hg j⟩;have hj':j<l.length*5:=by simpa using hj
  rw[aC hg,<-Array.getElem?_toList,<-List.getElem?_take_of_lt hj',h4,<-hfl,Array.getElem?_toList,getElem!_pos _ j hj,Array.getElem?_eq_getElem hj];rfl
 have hs:l.toArray.size=l.length:=by simp
 have hc:=AnyQ.slices_SortFunc_small Tryz.laySortF 5 Tryz.isAgg382 Tryz.sizeOf382 iZ dQ zZ cfC 283 #[] g 0 cap l.toArray w (enters_of Tryz.func283 (by kernel_rfl) rfl) (fun _ _ _ _ x y=>TT x y _) hold (aF hg) (by simpa using hl) (fun n W hn=>(Tryz.bits_Len n W (by omega) (by omega)).mono fun _ _ ⟨he,hw⟩=>⟨⟨_,he⟩,hw⟩);rw[hs] at hc;refine hc.mono ?_;rintro e w' ⟨rfl,n,os,rfl⟩;have hpm:=jG l;obtain⟨d',hd'⟩:∃ d',Sort.insertionSort (ltOf cfC) l.toArray 0 l.length=d':=⟨_,rfl⟩;have ho:uM l=d'.toList:=by rw[<-hd'];rfl
 rw[ho] at hpm |-;rw[hd'];have hd:d'.size=l.length:=by simpa using hpm.length_eq
 refine⟨rfl,⟨_,qP hg,by rw[jN];omega,by rw[hpm.length_eq];exact h2,h3,?_⟩,qO⟩;have hf2:=pE iZ 5 dQ d'.toList;have hle:(flatK iZ 5 d').size<=cur.size:=by simp;rw[hd];omega
 have:=jM id (flatK iZ 5 d') cur hle;rw[List.map_id,show d'=d'.toList.toArray by simp,hf2] at this;rw[<-this];simp
abbrev CdF (w:World) (b o:Nat) (c:Cd):Prop:=b<w.heap.size/\w.cell? ⟨b,o,none⟩=some (.int .i64 c.id)/\w.cell? ⟨b,o+1,none⟩=some (.int .i64 c.off)/\w.cell? ⟨b,o+2,none⟩=some (.int .i64 c.dist)/\w.cell? ⟨b,o+3,none⟩=some (.int .i64 c.jit)/\w.cell? ⟨b,o+4,none⟩=some (.int .i64 c.str)
theorem aU.at {w:World} {p:Option Addr} {n cap:Nat} {l:List Cd} (hv:aU iZ 5 w p n cap l) (h0:0<l.length):∃ b off,p=some ⟨b,off,none⟩/\b<w.heap.size/\∀ k (hk:k<l.length) w',Oy [] w w'->CdF w' b (off+k*5) l[k]:=by
 obtain⟨b,off,hp,hb,_⟩:=hv.cd (aR [] w) h0;refine⟨b,off,hp,hb,fun k hk w' ho=>?_⟩;obtain⟨b',off',hp',hb',h⟩:=hv.cd ho hk;obtain⟨rfl,rfl⟩:b=b'/\off=off':=by rw[hp] at hp';simpa using hp'
 exact⟨Nat.lt_of_lt_of_le hb ho.size,h⟩
def lstC (l:List Cd):Int:=l.foldl (fun m c=>min m c.jit) (l.headD default).jit
def yB (a b:Int):Nat:=min (a-b).natAbs 1073741824*min (a-b).natAbs 1073741824
def MG (y:Int) (l:List Cd):Nat:=(l.map (fun c=>yB y c.off)).sum
def WM (l:List Cd) (i:Nat):Nat:=UQ (MG (l.getD i default).off l / (l.length-1))
def UZ (l:List Cd) (p:Nat × Nat) (i:Nat):Nat × Nat:=if p.2<=WM l i then (i,WM l i) else p
def IX (l:List Cd):Nat × Nat:=(List.range l.length).foldl (UZ l) (0,0)
def nA (keep:Int):Nat->List Cd->List Cd
 | 0,l=>l
 | n+1,l=>if keep<l.length then (if ((IX l).2:Int)<=lstC l then l else nA keep n (l.take (IX l).1 ++ l.drop ((IX l).1+1))) else l
theorem wT (a b:Int):yB a b<=1152921504606846976:=Nat.mul_le_mul (Nat.min_le_right _ _) (Nat.min_le_right _ _)
theorem WR (y:Int):∀ l:List Cd,MG y l<=l.length*1152921504606846976
 | []=>by simp[MG]
 | c::l=>by
  have h1:=WR y l;have h2:=wT y c.off;simp only[MG,List.map_cons,List.sum_cons,length_cons] at *;omega
theorem WQ (y:Int) (l:List Cd) (c:Cd):MG y (l ++ [c])=MG y l+yB y c.off:=by simp[MG]
theorem eO {α:Type} (l:List α) {k:Nat} (h:k<l.length):l.take (k+1)=l.take k ++ [l[k]]:=by rw[List.take_add_one,List.getElem?_eq_getElem h];rfl
theorem isq_bd (n:Nat) (h:n<=9223372036854775807):UQ n<=4294967296:=by
 have:=Z9 (n:=n) (by omega);omega
def OrX (w0:World) (l:List Cd) (e:Ending) (w:World):Prop:=∃ g cap,e=.returned (.slice (some ⟨g,0,none⟩) (uM l).length cap)/\w0.heap.size<=g/\aO iZ 382 5 w g cap (uM l)
theorem QJ {w:World} {p:Option Addr} {n cap:Nat} {l:List Cd} (hv:aU iZ 5 w p n cap l) (hg:Gd l) (h0:0<l.length) :
  Calls Tryz.prog 254 #[.slice p n cap] w fun e w'=>OrX w l e w'/\Oy [] w w':=by
 have hln:=hv.len;subst hln;have hlb:=hg.len;have hck:=uK hv (by omega);rw[mV.2 hg] at hck;have HCK:=aA hck;have HCL:=aA (fun w' (ho:Oy [] w w')=>cloneC (hv.kept ho) h0 (by omega));clear hv hg hck;go_enter Tryz.func254,Tryz.ntmps254
 go_wp2_with fail
 refine HCK.out.mono ?_;rintro e w1 ⟨rfl,ho1⟩;have O1:=aA ho1;clear ho1;go_wp2_with fail
 refine (HCL.out w1 O1.out).mono ?_;rintro e w2 ⟨⟨g,cap',rfl,hg,hr⟩,ho2⟩;have HG:Hid (w.heap.size<=g):=aA (Nat.le_trans O1.out.size hg);have O2:=aA (O1.out.aB ho2);have HS:=aA (sortf_x hr hlb);clear ho2 hg hr;go_wp2_with fail
 refine HS.out.mono ?_;rintro e w3 ⟨rfl,hr,ho3⟩;have O3:=aA (O2.out.trans ho3 (fun x hx=>.inr (by rw[List.mem_singleton] at hx;rw[hx];exact HG.out)));have HR:=aA hr;have hl:=(jG l).length_eq;clear ho3 hr;go_wp2;go_ret
 exact⟨⟨g,cap',by rw[hl];rfl,HG.out,HR.out⟩,O3.out⟩
theorem ZV {l:List Cd} (hg:Gd l) (h0:0<l.length):∀ k,k<=l.length->0<=(l.take k).foldl (fun m c=>min m c.jit) (l.headD default).jit/\(l.take k).foldl (fun m c=>min m c.jit) (l.headD default).jit<=9007199254740992
 | 0,_=>by
  have:=iM (hg.ok _ (getElem_mem h0));rw[List.take_zero,List.foldl_nil,show l.headD default=l[0] by cases l with|nil=>simp at h0|cons=>rfl];omega
 | k+1,h=>by
  have h1:=ZV hg h0 k (by omega);have:=iM (hg.ok _ (getElem_mem (show k<l.length by omega)));rw[eO l (by omega),List.foldl_append,List.foldl_cons,List.foldl_nil];omega
def LjX (w:World) (l:List Cd) (vm vi:Value) (wr:World):Prop:=∃ k:Nat,k<=l.length/\vi=.int .i64 k/\vm=.int .i64 ((l.take k).foldl (fun m c=>min m c.jit) (l.headD default).jit)/\Oy [] w wr
theorem pLeastX {w:World} {p:Option Addr} {n cap:Nat} {l:List Cd} (hv:aU iZ 5 w p n cap l) (hg:Gd l) (h0:0<l.length)  :
  Calls Tryz.prog 256 #[.slice p n cap] w fun e w'=>e=.returned (.int .i64 (lstC l))/\Oy [] w w':=by
 have hln:=hv.len;subst hln;have hlb:=hg.len;obtain⟨b,off,rfl,hb,HC⟩:=hv.at h0;have HB:=aA (ZV hg h0);have HQ:=aA (show (l.headD default).jit=l[0].jit by cases l with|nil=>simp at h0|cons=>rfl);have HX:=aA HC;have c:=HC 0 h0 w (aR [] w);clear hv hg HC;simp only[Nat.zero_mul,Nat.add_zero] at c;have hl0:(0:Int)<(l.length:Int):=by omega
 go_enter Tryz.func256,Tryz.ntmps256
 go_wp2_with fail
 go_loopw [3,12] (fun vm vi wr=>LjX w l vm vi wr) (fun _ vi _=>l.length-(intOf vi).toNat)
 case atStart=>exact⟨0,Nat.zero_le _,rfl,by rw[List.take_zero,List.foldl_nil,HQ.out],aR _ _⟩
 case round =>
  clear c;obtain⟨i,hk,rfl,rfl,ho⟩:=hrel;have OO:=aA ho;by_cases hlt:i<l.length
  ·have HX:=aA (fun w' (o:Oy [] wr w')=>HX.out i hlt w' (OO.out.aB o))
   have hs:=eO l hlt;have hb1:=HB.out (i+1) (by omega);rw[hs,List.foldl_append,List.foldl_cons,List.foldl_nil] at hb1;have HS:=aA hs;generalize hf:(l.take i).foldl (fun m c=>min m c.jit) (l.headD default).jit=f at hb1 |-;have HF:=aA hf;clear hf hs;have m:=bJ wr [];have k:=m.zK;have c:=HX.out wr (aR [] wr);go_wp2_with (first|((with_reducible refine wU ?_);clear k m c;intro w m k;have c:=HX.out w m.zO)|(go_roundw;(case rel=>exact⟨i+1,by omega,by go_num,by rw[HS.out,List.foldl_append,HF.out];rfl,OO.out.aB gO⟩);(case measure=>first|(simp[intOf];done)|(simp[intOf];omega))))
  ·obtain rfl:i=l.length:=by omega
   rw[take_length];go_wp2;go_ret
   exact⟨rfl,OO.out⟩
def SpX (w:World) (l:List Cd) (y:Int) (vs vi:Value) (wr:World):Prop:=∃ k:Nat,k<=l.length/\vi=.int .i64 k/\vs=.int .u64 (MG y (l.take k))/\Oy [] w wr
theorem WO {s n dv:Nat} (h:s<=min n n*1152921504606846976) (hd:n-1=dv) (h2:2<=n):s / dv<=4611686018427387904:=by
 have e:dv*4611686018427387904=(4*dv)*1152921504606846976:=by omega
 refine Nat.div_le_of_le_mul (Nat.le_trans h ?_);rw[e,Nat.min_self];exact Nat.mul_le_mul_right _ (by omega)
theorem NQ (a b:Int):(min ((a-b).natAbs:Int) 1073741824)*(min ((a-b).natAbs:Int) 1073741824)=(yB a b:Int):=by
 unfold yB;rw[show min ((a-b).natAbs:Int) 1073741824=((min (a-b).natAbs 1073741824:Nat):Int) by omega];simp
theorem YE {w:World} {p:Option Addr} {n cap i:Nat} {l:List Cd} (hv:aU iZ 5 w p n cap l) (hg:Gd l) (h2:2<=l.length) (hi:i<l.length)  :
  Calls Tryz.prog 285 #[.slice p n cap,.int .i64 i] w fun e w'=>e=.returned (.int .i64 (WM l i))/\Oy [] w w':=by
 have hln:=hv.len;subst hln;have hlb:=hg.len;obtain⟨b,off,rfl,hb,HC⟩:=hv.at (by omega);have hck:=uK hv (by omega);rw[mV.2 hg] at hck;have HCK:=aA (fun w' (o:Oy [] w w')=>(by have h:=uK (hv.kept o) (by omega);rwa [mV.2 hg] at h:Calls Tryz.prog 250 #[.slice (some ⟨b,off,none⟩) l.length cap] w' fun e w2=>e=.returned (.int .i64 0)/\Oy [] w' w2));have HX:=aA HC;have HG:=aA hg;have d1:decide ((l.length:Int)<2)=false:=by simp;omega
 have d2:decide ((l.length:Int)<=(i:Int))=false:=by simp;omega
 have d3:decide (l.length<=i)=false:=by simp;omega
 have d4:decide (l.length<2)=false:=by simp;omega
 have hgd:l.getD i default=l[i]:=by rw[List.getD_eq_getElem?_getD,List.getElem?_eq_getElem hi];rfl
 have hy:=iM (hg.ok _ (getElem_mem hi));unfold WM;rw[hgd];obtain⟨res,HE⟩:∃ r:Nat,Hid (UQ (MG l[i].off l / (l.length-1))=r):=⟨_,aA rfl⟩;rw[HE.out];clear hv hg HC hck hgd;obtain⟨wo,rfl⟩:∃ wo:World,wo=w:=⟨_,rfl⟩;have m:=bJ wo [];have k:=m.zK;go_enter Tryz.func285,Tryz.ntmps285
 go_wp2_with ((with_reducible refine cM (HCK.out _ gO) ?_);clear k m;intro w m k)
 have O1:=aA m.zO;go_loopw [5,32] (fun vs vi wr=>SpX wo l l[i].off vs vi wr) (fun _ vi _=>l.length-(intOf vi).toNat)
 case atStart=>exact⟨0,Nat.zero_le _,rfl,rfl,O1.out⟩
 case round =>
  clear k m;obtain⟨j,hk,rfl,rfl,ho⟩:=hrel;have OO:=aA ho;have hsb:=WR l[i].off (l.take j);rw[length_take] at hsb;by_cases hlt:j<l.length
  ·have HX:=aA (fun w' (o:Oy [] wr w')=>And.intro (HX.out j hlt w' (OO.out.aB o)) (HX.out i hi w' (OO.out.aB o)))
   have hz:=iM (HG.out.ok _ (getElem_mem hlt));have hq:=wT l[i].off l[j].off;have hm:=NQ l[i].off l[j].off;have HS:=aA (show MG l[i].off (l.take (j+1))=MG l[i].off (l.take j)+yB l[i].off l[j].off by rw[eO l hlt,WQ]);generalize l[i]=y at hy hz hq hm HS HX hsb |-;generalize l[j]=z at hz hq hm HS HX hsb |-;obtain⟨y0,y1,y2,y3,y4⟩:=y;obtain⟨z0,z1,z2,z3,z4⟩:=z;dsimp only at hy hz hq hm HS HX hsb |-;have HA:=aA (fun w=>jH (fabs (y1-z1) w (by omega) (by omega)));have r1:wrap .i64 (y1-z1)=y1-z1:=by rw[wrap_i64];omega
   have r2:wrap .i64 (yB y1 z1:Int)=(yB y1 z1:Int):=by rw[wrap_i64];omega
   have r3:wrap .u64 (yB y1 z1:Int)=(yB y1 z1:Int):=by rw[wrap_u64];omega
   have r4:wrap .u64 ((MG y1 (l.take j):Int)+(yB y1 z1:Int))=((MG y1 (l.take j)+yB y1 z1:Nat):Int):=by rw[wrap_u64];omega
   rw[<-HS.out] at r4;generalize hs2:MG y1 (l.take (j+1))=s2 at HS r4;have H2:=aA hs2;clear hs2;generalize MG y1 (l.take j)=s1 at HS r4 hsb |-;generalize yB y1 z1=q at r2 r3 r4 hm HS hq;generalize (y1-z1).natAbs=d at HA hm;clear hsb hq hy hz;have m:=bJ wr [];have k:=m.zK;have c:=HX.out wr (aR [] wr);go_wp2_with (first|((with_reducible first|refine cM (HA.out _) ?_|refine wU ?_);clear k m c;intro w m k;have c:=HX.out w m.zO)|((with_reducible refine iY (id:=7) [0,1,2,3,4,5,6,7,8,9,10,11,12,13] [] ?_);simp only[bV];(repeat' (first|go_big_quiet_step (with_reducible first|exact gX (HA.out _))|(refine wpQuiet_step (fun K hK=>?_);go_simp;(first|(refine hK _ ?_;clear hK K)|(split<;>(refine hK _ ?_;clear hK K))))));all_goals (refine wpQuiet_nil ?_;clear k m c;intro w m k;have c:=HX.out w m.zO))|(go_roundw;(case rel=>exact⟨j+1,by omega,by go_num,by rw[H2.out],OO.out.aB gO⟩);(case measure=>first|(simp[intOf];done)|(simp[intOf];omega))))
  ·obtain rfl:j=l.length:=by omega
   rw[take_length] at hsb;rw[take_length];obtain⟨dv,hdv⟩:∃ dv,l.length-1=dv:=⟨_,rfl⟩;have hdi:(l.length:Int)-1=(dv:Int):=by omega
   have hd0:((dv:Int) == 0)=false:=by rw[beq_eq_false_iff_ne];omega
   have hd1:¬ (dv:Int)=0:=by omega
   have hs0:=WO hsb hdv h2;rw[hdv] at HE;generalize MG l[i].off l=s at hs0 hsb HE |-;have e1:(s:Int) / (dv:Int)=((s / dv:Nat):Int):=by simp
   have e3:wrap .u64 (dv:Int)=(dv:Int):=by rw[wrap_u64];omega
   have HS:=aA (fun w=>jH (fsqrt (s / dv) w (by omega)));generalize s / dv=q at HS e1 HE hs0;have e2:wrap .i64 (q:Int)=(q:Int):=by rw[wrap_i64];omega
   have e4:wrap .u64 (q:Int)=(q:Int):=by rw[wrap_u64];omega
   obtain rfl:=HE.out;clear hs0 hsb;have m:=bJ wr [];have k:=m.zK;go_wp2_with (first|((with_reducible first|refine cM (HS.out _) ?_|refine wU ?_);clear k m;intro w m k)|((with_reducible refine lE (fun w o g k K hK=>⟨rfl,?_⟩));simp[results,Tryz.results285,go_sem];refine hK _ ?_;exact⟨rfl,OO.out.aB o⟩))
end
section
open Go.RowKit
def CY (l:List Cd) (k:Nat):Nat × Nat:=(List.range k).foldl (UZ l) (0,0)
theorem xM (l:List Cd) (k:Nat):CY l (k+1)=UZ l (CY l k) k:=by unfold CY;rw[List.range_succ,List.foldl_append];rfl
theorem IW (l:List Cd):∀ k,0<k->(CY l k).1<k
 | 0,h=>by omega
 | 1,_=>by rw[xM];unfold UZ;split<;>simp[CY]
 | k+2,_=>by
  have:=IW l (k+1) (by omega);rw[xM];unfold UZ;split
  ·simp
  ·omega
def FaX (w:World) (l:List Cd) (vw vg vi:Value) (wr:World):Prop:=∃ k:Nat,k<=l.length/\vi=.int .i64 k/\vw=.int .i64 (CY l k).1/\vg=.int .i64 (CY l k).2/\Oy [] w wr
theorem pFarX {w:World} {p:Option Addr} {n cap:Nat} {l:List Cd} (hv:aU iZ 5 w p n cap l) (hg:Gd l) (h2:2<=l.length)  :
  Calls Tryz.prog 255 #[.slice p n cap] w fun e w'=>e=.returned (.tuple #[.int .i64 (IX l).1,.int .i64 (IX l).2])/\Oy [] w w':=by
 have hln:=hv.len;subst hln;have hlb:=hg.len;have HV:=aA hv;have HG:=aA hg;rw[show IX l=CY l l.length from rfl];clear hv hg;go_enter Tryz.func255,Tryz.ntmps255
 go_wp2_with fail
 go_loopw [4,5,10] (fun vw vg vi wr=>FaX w l vw vg vi wr) (fun _ _ vi _=>l.length-(intOf vi).toNat)
 case atStart=>exact⟨0,Nat.zero_le _,rfl,rfl,rfl,aR _ _⟩
 case round =>
  obtain⟨i,hk,rfl,rfl,rfl,ho⟩:=hrel;have OO:=aA ho;by_cases hlt:i<l.length
  ·have HSP:=aA (fun w' (o:Oy [] wr w')=>YE (HV.out.kept (OO.out.aB o)) HG.out h2 hlt)
   have HS:=aA (xM l i);unfold UZ at HS;generalize WM l i=s at HSP HS;obtain⟨⟨j,q⟩,hf⟩:∃ f,CY l i=f:=⟨_,rfl⟩;rw[hf] at HS |-;dsimp only at HS |-;clear hf ho;have m:=bJ wr [];have k:=m.zK;go_wp2_with (first|((with_reducible first|refine cM (HSP.out _ gO) ?_|refine wU ?_);clear k m;intro w m k)|(go_roundw;(case rel=>exact⟨i+1,by omega,by go_num,by rw[HS.out];grind,by rw[HS.out];grind,OO.out.aB gO⟩);(case measure=>first|(simp[intOf];done)|(simp[intOf];omega))))
  ·obtain rfl:i=l.length:=by omega
   go_wp2;go_ret2;exact⟨rfl,OO.out⟩
def sliceLen:Value->Nat
 | .slice _ n _=>n
 | _=>0
def PrX (w:World) (keep:Int) (g cap:Nat) (res:List Cd) (vl:Value) (wr:World):Prop:=∃ (n:Nat) (l':List Cd),l'.length<=n/\nA keep n l'=res/\vl=.slice (some ⟨g,0,none⟩) l'.length cap/\aO iZ 382 5 wr g cap l'/\Gd l'/\0<l'.length/\Oy [] w wr
theorem LA {l:List Cd} {j:Nat} (h:Gd l) (hj:j<l.length):Gd (l.take j ++ l.drop (j+1))/\(l.take j ++ l.drop (j+1)).length=l.length-1:=by
 rw[<-List.eraseIdx_eq_take_drop_succ];exact⟨h.sub (List.eraseIdx_sublist _ _),List.length_eraseIdx_of_lt hj⟩
def TM (keep:Int) (l:List Cd):List Cd:=nA keep l.length (uM l)
theorem J6 {keep:Int} (hkp:1<=keep):∀ (n:Nat) {l:List Cd},Gd l->0<l.length->Gd (nA keep n l)/\0<(nA keep n l).length/\∀ c∈nA keep n l,c∈l
 | 0,l,h,h0=>⟨h,h0,fun _ h=>h⟩
 | n + 1,l,h,h0=>by
  unfold nA;split
  ·rename_i hk
   split
   ·exact⟨h,h0,fun _ h=>h⟩
   ·have hj:=IW l l.length h0
    rw[show IX l=CY l l.length from rfl];obtain⟨h1,h2⟩:=LA h hj;obtain⟨a,b,c⟩:=J6 hkp n h1 (by omega)
    exact⟨a,b,fun x hx=>by
     have:=c x hx;rw[<-List.eraseIdx_eq_take_drop_succ] at this;exact (List.eraseIdx_sublist _ _).subset this⟩
  ·exact⟨h,h0,fun _ h=>h⟩
theorem pPruneX {w:World} {p:Option Addr} {n cap:Nat} {l:List Cd} (hv:aU iZ 5 w p n cap l) (hg:Gd l) (h0:0<l.length) (keep:Int) (hkp:1<=keep) :
  Calls Tryz.prog 239 #[.slice p n cap,.int .i64 keep] w fun e w'=>(∃ g cap,e=.returned (.tuple #[.slice (some ⟨g,0,none⟩) (TM keep l).length cap,.int .i64 0])/\w.heap.size<=g/\aO iZ 382 5 w' g cap (TM keep l))/\Oy [] w w':=by
 have hln:=hv.len;subst hln;have hlb:=hg.len;have hck:=uK hv (by omega);rw[mV.2 hg] at hck;have HCK:=aA hck;have HV:=aA hv;have HG:=aA hg;clear hv hg hck;have d1:decide (keep<1)=false:=by simp;omega
 unfold TM;have hp:=jG l;obtain⟨l2,hl2⟩:∃ l2,uM l=l2:=⟨_,rfl⟩;rw[hl2] at hp |-;obtain⟨res,hres⟩:∃ res,nA keep l.length l2=res:=⟨_,rfl⟩;rw[hres];have HRES:=aA hres;have HL2:=aA hl2;have HPM:=aA hp;clear hl2 hres hp;go_enter Tryz.func239,Tryz.ntmps239
 go_wp2_with fail
 refine HCK.out.mono ?_;rintro e w1 ⟨rfl,ho1⟩;have O1:=aA ho1;clear ho1 HCK;have HO:=aA (QJ (HV.out.kept O1.out) HG.out h0);go_wp2_with fail
 refine HO.out.mono ?_;rintro e w2 ⟨⟨g,cap2,rfl,hge,hr⟩,ho2⟩;have O2:=aA (O1.out.aB ho2);have R2:=aA hr;have HGE:Hid (w.heap.size<=g):=aA (Nat.le_trans O1.out.size hge);have hp:=HPM.out;have G2:=aA (HG.out.perm hp);have h02:0<l2.length:=by rw[hp.length_eq];exact h0
 have hlq:=hp.length_eq;rw[HL2.out] at R2 |-;clear ho2 hr hge hp HO;go_wp2_with fail
 go_loopw [7] (fun vl wr=>PrX w keep g cap2 res vl wr) (fun vl _=>sliceLen vl)
 case atStart=>exact⟨l.length,l2,by omega,HRES.out,by rw[HPM.out.length_eq],R2.out,G2.out,h02,O2.out⟩
 case round =>
  clear h02;obtain⟨nn,l',hnn,hpr,rfl,hr,hg',hl0,ho⟩:=hrel;obtain⟨n2,rfl⟩:∃ n2,nn=n2+1:=⟨nn-1,by omega⟩;have HP:=aA hpr;unfold nA at HP;have hfar:=IW l' l'.length hl0;rw[show CY l' l'.length=IX l' from rfl] at hfar;clear hpr;have RR:=aA hr;have GG:=aA hg';have OO:=aA ho;have VV:=aA (hr.dI dQ rfl);have hlb':=hg'.len;clear hr hg' ho;by_cases hgt:keep<(l'.length:Int)
  ·have q1:decide (keep<(l'.length:Int))=true:=eY hgt
   have HF:=aA (pFarX VV.out GG.out (by omega));go_wp2_with fail
   refine HF.out.mono ?_;rintro e w3 ⟨rfl,ho3⟩;generalize IX l'=fc at HP hfar |-;obtain⟨j,m⟩:=fc;dsimp only at HP hfar |-;have hj:=hfar;have O3:=aA (OO.out.aB ho3);have R3:=aA (RR.out.kept ho3 (by simp));have HL:=aA (pLeastX (VV.out.kept ho3) GG.out hl0);clear ho3 HF;go_wp2_with fail
   refine HL.out.mono ?_;rintro e w4 ⟨rfl,ho4⟩;generalize lstC l'=r at HP |-;have O4:=aA (O3.out.aB ho4);have R4:=aA (R3.out.kept ho4 (by simp));clear ho4 HL;by_cases hle:(m:Int)<=r
   ·have q2:decide ((m:Int)<=r)=true:=eY hle
    go_wp2_with fail
    go_ret2;obtain rfl:l'=res:=by rw[<-HP.out,if_pos (by omega),if_pos (by omega)]
    exact⟨⟨g,cap2,rfl,HGE.out,R4.out⟩,O4.out⟩
   ·have q2:decide ((m:Int)<=r)=false:=dL hle
    have hD:=deleteC R4.out hj (by omega);rw[show ((j+1:Nat):Int)=(j:Int)+1 by omega] at hD;have HD:=aA hD;clear hD;go_wp2_with fail
    refine HD.out.mono ?_;rintro e w5 ⟨rfl,hr5,ho5⟩;obtain⟨hg5,hl5⟩:=LA GG.out hj;rw[<-hl5];have O5:=aA (O4.out.trans ho5 (fun x hx=>.inr (by rw[List.mem_singleton] at hx;rw[hx];exact HGE.out)));have R5:=aA hr5;have G5:=aA hg5;have hl6:0<(l'.take j ++ l'.drop (j+1)).length:=by omega
    have hl7:(l'.take j ++ l'.drop (j+1)).length<l'.length:=by omega
    have HP5:=aA (show nA keep n2 (l'.take j ++ l'.drop (j+1))=res by rw[<-HP.out,if_pos (by omega),if_neg (by omega)]);generalize l'.take j ++ l'.drop (j+1)=l5 at R5 G5 HP5 hl6 hl7 |-;clear hr5 ho5 hg5 hl5;go_wp2;go_roundw
    case rel=>exact⟨n2,l5,by omega,HP5.out,rfl,R5.out,G5.out,hl6,O5.out⟩
    case measure=>simpa [sliceLen] using hl7
  ·have q1:decide (keep<(l'.length:Int))=false:=dL hgt
   go_wp2_with fail
   go_ret2;obtain rfl:l'=res:=by rw[<-HP.out,if_neg (by omega)]
   exact⟨⟨g,cap2,rfl,HGE.out,RR.out⟩,OO.out⟩
theorem pSystem {w:World} {p:Option Addr} {n cap:Nat} {l:List Cd} (hv:aU iZ 5 w p n cap l) (hg:Gd l) (h0:0<l.length)  :
  Calls Tryz.prog 263 #[.slice p n cap] w fun e w'=>e=.returned (.tuple #[.int .i64 ((uM l).headD default).id,.bool true])/\Oy [] w w':=by
 have hln:=hv.len;subst hln;have HO:=aA (QJ hv hg h0);have hl:=(jG l).length_eq;obtain⟨l2,hl2⟩:∃ l2,uM l=l2:=⟨_,rfl⟩;rw[hl2] at hl |-;have HL2:=aA hl2;have h2:0<l2.length:=by omega
 have he:l2.headD default=l2[0]:=by cases l2 with|nil=>simp at h2|cons=>rfl
 rw[he];clear hl2 hv hg;go_enter Tryz.func263,Tryz.ntmps263
 go_wp2_with fail
 refine HO.out.mono ?_;rintro e w2 ⟨⟨g,c2,rfl,hge,hr⟩,ho2⟩;have OO:=aA ho2;rw[HL2.out] at hr |-;obtain⟨b,off,hp,hb,HC⟩:=(hr.dI dQ rfl).at h2;obtain⟨rfl,rfl⟩:g=b/\0=off:=by simpa using hp
 have c:=HC 0 h2 w2 (aR [] w2);simp only[Nat.zero_mul,Nat.add_zero] at c;have q1:((l2.length:Int) == 0)=false:=by rw[beq_eq_false_iff_ne];omega
 have q2:(0:Int)<(l2.length:Int):=by omega
 clear HC hr ho2 HL2;go_wp2;go_ret2;exact⟨rfl,OO.out⟩
end
section
open Go.RowKit
def kU (c:Cd):Int:=max 1 (1073741824 / (c.dist / 1000+1))
theorem qH {c:Cd} (h:CO c=true):1<=kU c/\kU c<=1073741824:=by
 have hb:=iM h;unfold kU;have h0:0<=c.dist / 1000:=Int.ediv_nonneg hb.2.2.2.2.1 (by omega);have h1:1073741824 / (c.dist / 1000+1)<=1073741824:=Int.ediv_le_self _ (by omega);omega
def dO (l:List Cd):Int:=(l.map kU).sum
theorem oJ:∀ {l:List Cd},(∀ c∈l,CO c=true)->(l.length:Int)<=dO l/\dO l<=l.length*1073741824/\∀ c∈l,kU c<=dO l
 | [],_=>⟨by simp[dO],by simp[dO],by simp⟩
 | c::r,h=>by
  obtain⟨h1,h2,h3⟩:=oJ (l:=r) (fun x hx=>h x (List.mem_cons_of_mem _ hx));obtain⟨h4,h5⟩:=qH (h c (mem_cons_self ..));have e:dO (c::r)=kU c+dO r:=by simp[dO]
  rw[e];refine⟨by simp only[length_cons];omega,by simp only[length_cons];push_cast;rw[Int.add_mul];omega,fun x hx=>?_⟩;rcases List.mem_cons.1 hx with rfl|hx
  ·omega
  ·have:=h3 x hx;omega
def WtI (w:World) (l:List Cd) (vo vi:Value) (wr:World):Prop:=
 ∃ k:Nat,k<=l.length/\vi=.int .i64 k/\Own fC 3 1 w.heap.size wr vo ((l.take k).map kU)/\Oy [] w wr
theorem KA {w:World} {p:Option Addr} {n cap:Nat} {l:List Cd} (hv:aU iZ 5 w p n cap l) (hg:Gd l) :
  Calls Tryz.prog 286 #[.slice p n cap] w fun e w'=>PeR w (l.map kU) e w'/\Oy [] w w':=by
 have hln:=hv.len;subst hln;have hlb:=hg.len;have hck:=uK hv (by omega);rw[mV.2 hg] at hck;have HCK:=aA hck;have HV:=aA hv;have HG:=aA hg;clear hv hg hck;go_enter Tryz.func286,Tryz.ntmps286
 go_wp2_with fail
 refine HCK.out.mono ?_;rintro e w1 ⟨rfl,ho1⟩;have O1:=aA ho1;clear ho1 HCK;go_wp2_with fail
 go_loopw [3,11] (fun vo vi wr=>WtI w l vo vi wr) (fun _ vi _=>l.length-(intOf vi).toNat)
 case atStart=>exact⟨0,Nat.zero_le _,rfl,bR _ _,O1.out⟩
 case round =>
  obtain⟨k,hk,rfl,hown,ho⟩:=hrel;have OW:=aA hown;have OO:=aA ho;clear hown ho;by_cases hlt:k<l.length
  ·obtain⟨bk,off,hp,hb,c0,c1,c2,c3,c4⟩:=HV.out.cd OO.out hlt
   subst hp;have hle:=OO.out.size;have hb':bk<wr.heap.size:=by omega
   have hok:=HG.out.ok _ (getElem_mem hlt);have hbd:=iM hok;have hwb:=qH hok
   have HSN:Hid ((l.take (k+1)).map kU=(l.take k).map kU ++ [kU l[k]]):=aA (by
    rw[List.take_succ_eq_append_getElem hlt,List.map_append];rfl)
   have hfl2:((l.take k).map kU).length<=k:=by rw[length_map,length_take];omega
   generalize (l.take k).map kU=acc at OW HSN hfl2;have hwt:kU l[k]=max 1 (1073741824 / (l[k].dist / 1000+1)):=rfl;generalize kU l[k]=wt at HSN hwb hwt;generalize l[k]=x at c0 c1 c2 c3 c4 hbd hwt;obtain⟨id,of,di,ji,st⟩:=x;dsimp only at c0 c1 c2 c3 c4 hbd hwt;obtain⟨_,_,_,_,b1,b2,_⟩:=hbd;clear hok;obtain⟨x1,hx1⟩:∃ x1,di / 1000=x1:=⟨_,rfl⟩;have hx1b:0<=x1/\x1<=9007199254740992:=by omega
   obtain⟨y1,hy1⟩:∃ y1,1073741824 / (x1+1)=y1:=⟨_,rfl⟩;rw[hx1,hy1] at hwt;obtain⟨x1n,x1p⟩:=hx1b;have hd0:((x1+1:Int) == 0)=false:=by rw[beq_eq_false_iff_ne];omega
   obtain⟨pp,cap',rfl,_⟩:=Own.dI (enc:=fC) (s:=1) dM OW.out;go_upto_region 7 with (fail)
   refine aG (G:=fun w0=>Code.wp _ _ _ _ w0) ?_;intro w2 hb1 ho1 hs1;have B2:=aA hb1;have O2:=aA (OO.out.aB ho1);have W2:=aA (OW.out.kept ho1);clear hb1 ho1 hs1 c0 c1 c2 c3 c4 OO OW;have k2:=aC B2.out 2;have lk:=aF B2.out;have HWT:=aA hwt;clear hwt;go_wp2_with (at_builtin;refine aW ?_)
   refine aG (G:=fun w0=>Stop (wpList _ _ _ _ _ w0)) ?_;intro w5 hb5 ho5 hs5;have B5:=aA hb5;have O5:=aA (O2.out.aB ho5);have R5:=aA (W2.out.kept ho5);clear hb5 ho5 hs5 k2 lk;refine bH ?_;refine bK (w0:=w) rfl _ _ 52 rfl 3 (.int .i64 0) 1 8 Tryz.underlying52 (by kernel_rfl) rfl (by decide) fC dM nT acc _ rfl R5.out w2.heap.size wt rfl (fun j u hj=>?_) (by simp[maxLen];omega) (by omega) O5.out ?_
   ·rw[aC B5.out,<-hj,HWT.out];simp[fC]
   intro v6 w6 hown6 ho6 _;have W6:=aA hown6;have O6:=aA ho6;clear hown6 ho6;go_wp2;go_roundw
   case rel=>exact⟨k+1,by omega,by go_num,by rw[HSN.out];exact W6.out,O6.out⟩
   case measure=>first|(simp[intOf];done)|(simp[intOf];omega)
  ·have HC:Hid ((l.take k).map kU=l.map kU):=aA (by rw[take_of_length_le (by omega)])
   rw[HC.out] at OW;go_wp2;go_ret
   exact⟨⟨_,rfl,OW.out⟩,OO.out⟩
def TK (val:Cd->Int) (tot:Int) (c:Cd):Int:=kU c*val c / tot
def ws (val:Cd->Int) (tot:Int) (l:List Cd):Int:=(l.map (TK val tot)).sum
def mE (first:Int) (c:Cd):Int:=c.off-first
def yS (mean:Int) (c:Cd):Int:=(yB c.off mean:Int)
def gZ (l:List Cd):Int:=(l.headD default).off+ws (mE (l.headD default).off) (dO l) l
def xG (l:List Cd):Int:=(UQ (ws (yS (gZ l)) (dO l) l).toNat:Int)
theorem PU (val:Cd->Int) (tot:Int) (l:List Cd) (c:Cd):ws val tot (l ++ [c])=ws val tot l+TK val tot c:=by simp[ws]
theorem JQ (l:List Cd) (c:Cd):dO (l ++ [c])=dO l+kU c:=by simp[dO]
theorem ws_bd {val:Cd->Int} {tot B:Int} (ht:0<tot):∀ {l:List Cd},(∀ c∈l,CO c=true/\ -B<=val c/\val c<=B)->tot*ws val tot l<=B*dO l/\ -(B*dO l)-l.length*tot<=tot*ws val tot l
 | [],_=>by simp[ws,dO]
 | c::r,h=>by
  have hr:=ws_bd ht (l:=r) (fun x hx=>h x (List.mem_cons_of_mem _ hx));obtain⟨h1,h2,h3⟩:=h c (mem_cons_self ..);have hw:=qH h1;have e:ws val tot (c::r)=TK val tot c+ws val tot r:=by simp[ws]
  have e2:dO (c::r)=kU c+dO r:=by simp[dO]
  have a1:tot*(kU c*val c / tot)<=kU c*val c:=Int.mul_ediv_self_le (by omega);have a2:kU c*val c<tot*(kU c*val c / tot)+tot:=Int.lt_mul_ediv_self_add ht;have a3:kU c*val c<=kU c*B:=Int.mul_le_mul_of_nonneg_left h3 (by omega);have a4:kU c* -B<=kU c*val c:=Int.mul_le_mul_of_nonneg_left h2 (by omega);rw[e,e2,Int.mul_add,Int.mul_add,length_cons];unfold TK;have e3:((r.length+1:Nat):Int)*tot=r.length*tot+tot:=by push_cast;rw[Int.add_mul,Int.one_mul]
  rw[e3];rw[Int.mul_neg] at a4;rw[Int.mul_comm (kU c) B] at a3 a4;omega
theorem WE {l:List Cd} (h:∀ c∈l,CO c=true) (k:Nat):dO (l.take k)<=dO l/\0<=dO (l.take k):=by
 have e:dO l=dO (l.take k)+dO (l.drop k):=by
  have:dO (l.take k ++ l.drop k)=dO (l.take k)+dO (l.drop k):=by simp only[dO,List.map_append,List.sum_append]
  rwa [List.take_append_drop] at this
 have h1:=(oJ (l:=l.drop k) (fun c hc=>h c (List.mem_of_mem_drop hc))).1;have h2:=(oJ (l:=l.take k) (fun c hc=>h c (mem_of_mem_take hc))).1;omega
theorem zI {val:Cd->Int} {B:Int} {l:List Cd} (hB:0<=B) (h0:0<l.length) (h:∀ c∈l,CO c=true/\ -B<=val c/\val c<=B) (k:Nat): -(B+l.length)<=ws val (dO l) (l.take k)/\ws val (dO l) (l.take k)<=B:=by
 have hk:=fun c hc=>(h c hc).1;have ht:=(oJ hk).1;have hp:0<dO l:=by omega
 obtain⟨a,b⟩:=ws_bd (val:=val) (tot:=dO l) (B:=B) hp (l:=l.take k) (fun c hc=>h c (mem_of_mem_take hc));obtain⟨c,d⟩:=WE hk k;have e:=Int.mul_le_mul_of_nonneg_left c hB;have hl:((l.take k).length:Int)<=l.length:=by rw[length_take];omega
 have f:=Int.mul_le_mul_of_nonneg_right hl (Int.le_of_lt hp);constructor
 ·refine Int.le_of_mul_le_mul_left (a:=dO l) ?_ hp
  rw[Int.mul_neg,Int.mul_add,Int.mul_comm (dO l) B,Int.mul_comm (dO l) (l.length:Int)];omega
 ·refine Int.le_of_mul_le_mul_left (a:=dO l) ?_ hp
  rw[Int.mul_comm (dO l) B];omega
theorem aU.i64 {w w':World} {p:Option Addr} {n cap:Nat} {l:List Int} (hv:aU fC 1 w p n cap l) (ho:Oy [] w w') {k:Nat} (hlt:k<l.length):∃ b off,p=some ⟨b,off,none⟩/\b<w.heap.size /\
  w'.cell? ⟨b,off+k,none⟩=some (.int .i64 l[k]):=by
 obtain⟨b,off,hp,hb,hc⟩:=hv.cell k l[k] (List.getElem?_eq_getElem hlt);refine⟨b,off,hp,hb,?_⟩;rw[ho.cell hb (by simp)];have:=hc 0 _ rfl;simpa using this
theorem pMean1 {w:World} {b:Nat} {x:Int} (hb:w.heap[b]? = some (.cells #[.int .i64 x] 3 (0,0))) (c:Cd) (hc:CO c=true) (h0: -4503599627370496<=x) (h1:x<=4503599627370496)  :
  Calls Tryz.prog 259 #[yJ c,.pointer (some ⟨b,0,none⟩)] w fun e w'=>e=.returned (.int .i64 (mE x c))/\Oy [] w w':=by
 have hbd:=iM hc;obtain⟨id,of,di,ji,st⟩:=c;unfold yJ;dsimp only at hbd |-;obtain⟨_,_,b1,b2,_⟩:=hbd;have r1:wrap .i64 (of-x)=of-x:=by rw[wrap_i64];omega
 unfold mE;dsimp only;clear hc h0 h1 b1 b2;have m:=iX hb;have k:=m.zK;clear hb;go_enter Tryz.func259,Tryz.ntmps259
 go_wp2_with (first|((with_reducible refine wU ?_);clear k m;intro w m k)|((with_reducible refine lF (fun w _=>⟨rfl,?_⟩));simp[results,Tryz.results259,go_sem]))
theorem TY (c:Cd) (hc:CO c=true) (x:Int) (h0: -112589990684262400<=x) (h1:x<=112589990684262400) (w:World) :
  Calls Tryz.prog 290 #[yJ c,.int .i64 x] w fun e w'=>e=.returned (.int .i64 (c.off-x).natAbs)/\Oy [] w w':=by
 have hbd:=iM hc;obtain⟨id,of,di,ji,st⟩:=c;unfold yJ;dsimp only at hbd |-;obtain⟨_,_,b1,b2,_⟩:=hbd;have r1:wrap .i64 (of-x)=of-x:=by rw[wrap_i64];omega
 have HA:=aA (fun w=>jH (fabs (of-x) w (by omega) (by omega)));clear hc h0 h1 b1 b2;have m:=bJ w [];have k:=m.zK;go_enter Tryz.func290,Tryz.ntmps290
 go_wp2_with (first|((with_reducible first|refine cM (HA.out _) ?_|refine wU ?_);clear k m;intro w m k)|((with_reducible refine lF (fun w _=>⟨rfl,?_⟩));simp[results,Tryz.results290,go_sem]))
theorem pJit1 {w:World} {b:Nat} {x:Int} (hb:w.heap[b]? = some (.cells #[.int .i64 x] 3 (0,0))) (c:Cd) (hc:CO c=true) (h0: -112589990684262400<=x) (h1:x<=112589990684262400)  :
  Calls Tryz.prog 289 #[yJ c,.pointer (some ⟨b,0,none⟩)] w fun e w'=>e=.returned (.int .i64 (yS x c))/\Oy [] w w':=by
 have HD:=aA (TY c hc x h0 h1);have hm:=NQ c.off x;have hq:=wT c.off x;have r1:wrap .i64 (yB c.off x:Int)=(yB c.off x:Int):=by rw[wrap_i64];omega
 unfold yS;generalize yB c.off x=q at hm r1 |-;generalize (c.off-x).natAbs=d at HD hm;obtain⟨id,of,di,ji,st⟩:=c;unfold yJ at HD |-;dsimp only at HD |-;clear hc h0 h1 hq;have m:=iX hb;have k:=m.zK;clear hb;go_enter Tryz.func289,Tryz.ntmps289
 go_wp2_with (first|((with_reducible first|refine cM (HD.out _) ?_|refine wU ?_);clear k m;intro w m k)|((with_reducible refine lF (fun w _=>⟨rfl,?_⟩));simp[results,Tryz.results289,go_sem]))
def W1I (w:World) (l:List Cd) (vt vi:Value) (wr:World):Prop:=
 ∃ k:Nat,k<=l.length/\vi=.int .i64 k/\vt=.int .i64 (dO (l.take k))/\Oy [] w wr
def W2I (w:World) (l:List Cd) (val:Cd->Int) (tot:Int) (vs vi:Value) (wr:World):Prop:=
 ∃ k:Nat,k<=l.length/\vi=.int .i64 k/\vs=.int .i64 (ws val tot (l.take k))/\Oy [] w wr
theorem QZ {c:Cd} {x:Int} (h:CO c=true) (h0: -4503599627370496<=x) (h1:x<=4503599627370496): -9007199254740992<=mE x c/\mE x c<=9007199254740992:=by
 have:=iM h;unfold mE;omega
theorem WK {c:Cd} {x:Int} (_:CO c=true) (_: -112589990684262400<=x) (_:x<=112589990684262400): -1152921504606846976<=yS x c/\yS x c<=1152921504606846976:=by
 have:=wT c.off x;unfold yS;omega
theorem pWtMean {w:World} {p:Option Addr} {n cap b:Nat} {l:List Cd} {x:Int} (hv:aU iZ 5 w p n cap l) (hg:Gd l) (hb:w.heap[b]? = some (.cells #[.int .i64 x] 3 (0,0))) (h00:0<l.length) (h0: -4503599627370496<=x) (h1:x<=4503599627370496) :
  Calls Tryz.prog 258 #[.slice p n cap,.func (.func 259) #[] #[.pointer (some ⟨b,0,none⟩)]] w fun e w'=>e=.returned (.int .i64 (ws (mE x) (dO l) l))/\Oy [] w w':=by
 have hln:=hv.len;subst hln;have hlb:=hg.len;have HW:=aA (KA hv hg);have HVB:=aA (fun c (h:CO c=true)=>QZ (x:=x) h h0 h1);have HWB:=aA (zI (val:=mE x) (B:=9007199254740992) (by decide) h00 (fun c hc=>⟨hg.ok c hc,HVB.out c (hg.ok c hc)⟩));clear h00;have HV:=aA hv;have HG:=aA hg;have BB:=aA hb;have HF:=aA (And.intro h0 h1);clear hv hg hb h0 h1;go_enter Tryz.func258,Tryz.ntmps258
 go_wp2_with fail
 refine HW.out.mono ?_;rintro e w1 ⟨⟨v1,rfl,hown⟩,ho1⟩;have O1:=aA ho1;obtain⟨pw,cw,rfl,hvw⟩:=Own.dI (enc:=fC) (s:=1) dM hown;rw[length_map] at hvw |-;have VW:=aA hvw;clear ho1 hown HW hvw;go_wp2_with fail
 go_loopw [6,18] (fun vt vi wr=>W1I w1 l vt vi wr) (fun _ vi _=>l.length-(intOf vi).toNat)
 case atStart=>exact⟨0,Nat.zero_le _,rfl,rfl,aR _ _⟩
 case round =>
  obtain⟨k,hk,rfl,rfl,ho⟩:=hrel;have OO:=aA ho;clear ho;by_cases hlt:k<l.length
  ·obtain⟨bk,off,hp,hb,c0⟩:=VW.out.i64 (k:=k) OO.out (by rw[length_map];exact hlt)
   subst hp;have hle:=OO.out.size;have hb':bk<wr.heap.size:=by omega
   rw[List.getElem_map] at c0;have hwb:=qH (HG.out.ok _ (getElem_mem hlt))
   have HSN:Hid (dO (l.take (k+1))=dO (l.take k)+kU l[k]):=aA (by
    rw[List.take_succ_eq_append_getElem hlt,JQ])
   have htb:=oJ (l:=l.take k) (fun c hc=>HG.out.ok c (mem_of_mem_take hc));rw[length_take,Nat.min_eq_left hk] at htb;obtain⟨tb1,tb2,_⟩:=htb;generalize dO (l.take k)=acc at HSN tb1 tb2 |-;generalize kU l[k]=wt at HSN c0 hwb;have tb3:acc<=12884901888:=by omega
   clear tb2;go_wp2_with fail
   go_roundw
   case rel=>exact⟨k+1,by omega,by go_num,by rw[HSN.out],OO.out⟩
   case measure=>first|(simp[intOf];done)|(simp[intOf];omega)
  ·have HC:Hid (l.take k=l):=aA (take_of_length_le (by omega))
   have htb:=oJ HG.out.ok;rw[HC.out];obtain⟨tot,htot⟩:∃ tot,dO l=tot:=⟨_,rfl⟩;rw[htot] at htb |-;have HT:=aA htb;have HTO:=aA htot;have ht2:tot<17179869184:=by have:=htb.2.1;omega
   have VX:=aA (VW.out.kept OO.out);have HVX:=aA (HV.out.kept (O1.out.aB OO.out));have BX:=aA ((O1.out.aB OO.out).got BB.out (by simp));have OX:=aA (O1.out.aB OO.out);clear htb htot HC VW HV BB O1 OO;obtain⟨wo,rfl⟩:∃ wo:World,wo=wr:=⟨_,rfl⟩;go_wp2_with fail
   clear hk hlt;go_loopw [9,28] (fun vs vi wr=>W2I wo l (mE x) tot vs vi wr) (fun _ vi _=>l.length-(intOf vi).toNat)
   case atStart=>exact⟨0,Nat.zero_le _,rfl,rfl,aR _ _⟩
   case round =>
    obtain⟨k,hk,rfl,rfl,ho⟩:=hrel;have OO:=aA ho;clear ho;by_cases hlt:k<l.length
    ·obtain⟨bw,ow,hp,hb,d0⟩:=VX.out.i64 (k:=k) OO.out (by rw[length_map];exact hlt)
     subst hp;obtain⟨bk,off,hp,hb2,c0,c1,c2,c3,c4⟩:=HVX.out.cd OO.out hlt;subst hp;have hle:=OO.out.size;have hb':bw<wr.heap.size:=by omega
     have hb2':bk<wr.heap.size:=by omega
     rw[List.getElem_map] at d0;have hxo:=HG.out.ok _ (getElem_mem hlt);have hwb:=qH hxo;have hwt:kU l[k]<=tot:=HT.out.2.2 _ (getElem_mem hlt);have hxb:=iM hxo
     have HSN:Hid (ws (mE x) tot (l.take (k+1))=ws (mE x) tot (l.take k)+kU l[k]*mE x l[k] / tot):=aA (by
      rw[List.take_succ_eq_append_getElem hlt,PU];rfl)
     have hpb:=HWB.out k;have hpb2:=HWB.out (k+1);have hvb:=HVB.out l[k] hxo;rw[HTO.out] at hpb hpb2;rw[HSN.out] at hpb2;have hprt: -9223372036854775808<=kU l[k]*mE x l[k] / tot/\kU l[k]*mE x l[k] / tot<=9223372036854775807:=by omega
     have hpr1:=gH hprt.1 hprt.2;have HM1:=aA (fun w' (ho:Oy [] wo w')=>pMean1 (ho.got BX.out (by simp)) l[k] hxo HF.out.1 HF.out.2);have HMD:=aA (fun w'=>j5 (mU (kU l[k]) (mE x l[k]) tot w' (by omega) (by omega) (by omega) (by omega) (by omega) (by omega)));rw[hpr1] at HMD;generalize ws (mE x) tot (l.take k)=acc at HSN hpb hpb2 |-;generalize kU l[k]*mE x l[k] / tot=pr at HSN hprt HMD hpb2;have r1:wrap .i64 (acc+pr)=acc+pr:=by rw[wrap_i64];omega
     clear hpr1;generalize kU l[k]=wt at d0 HMD;generalize l[k]=x at c0 c1 c2 c3 c4 HM1 HMD;obtain⟨id,of,di,ji,st⟩:=x;unfold yJ at HM1;dsimp only at c0 c1 c2 c3 c4 HM1 HMD;generalize mE x ⟨id,of,di,ji,st⟩=df at HM1 HMD;generalize NT pr=okb at HMD;clear hpb hpb2 hvb hprt hxo hwb hwt hxb;go_wp2_with fail
     refine (HM1.out wr OO.out).mono ?_;rintro e w3 ⟨rfl,ho3⟩;have O3:=aA (OO.out.aB ho3);clear ho3 HM1 OO c0 c1 c2 c3 c4 d0 hb' hb2';go_wp2_with fail
     refine (HMD.out w3).mono ?_;rintro e w4 ⟨rfl,ho4⟩;have O4:=aA (O3.out.aB ho4);clear ho4;clear HMD O3;go_wp2;go_roundw
     case rel=>exact⟨k+1,by omega,by go_num,by rw[HSN.out],O4.out⟩
     case measure=>first|(simp[intOf];done)|(simp[intOf];omega)
    ·have HC:Hid (l.take k=l):=aA (take_of_length_le (by omega))
     rw[HC.out];go_wp2;go_ret
     exact⟨by rw[HTO.out];rfl,OX.out.aB OO.out⟩
theorem pWtJit {w:World} {p:Option Addr} {n cap b:Nat} {l:List Cd} {x:Int} (hv:aU iZ 5 w p n cap l) (hg:Gd l) (hb:w.heap[b]? = some (.cells #[.int .i64 x] 3 (0,0))) (h00:0<l.length) (h0: -112589990684262400<=x) (h1:x<=112589990684262400) :
  Calls Tryz.prog 258 #[.slice p n cap,.func (.func 289) #[] #[.pointer (some ⟨b,0,none⟩)]] w fun e w'=>e=.returned (.int .i64 (ws (yS x) (dO l) l))/\Oy [] w w':=by
 have hln:=hv.len;subst hln;have hlb:=hg.len;have HW:=aA (KA hv hg);have HVB:=aA (fun c (h:CO c=true)=>WK (x:=x) h h0 h1);have HWB:=aA (zI (val:=yS x) (B:=1152921504606846976) (by decide) h00 (fun c hc=>⟨hg.ok c hc,HVB.out c (hg.ok c hc)⟩));clear h00;have HV:=aA hv;have HG:=aA hg;have BB:=aA hb;have HF:=aA (And.intro h0 h1);clear hv hg hb h0 h1;go_enter Tryz.func258,Tryz.ntmps258
 go_wp2_with fail
 refine HW.out.mono ?_;rintro e w1 ⟨⟨v1,rfl,hown⟩,ho1⟩;have O1:=aA ho1;obtain⟨pw,cw,rfl,hvw⟩:=Own.dI (enc:=fC) (s:=1) dM hown;rw[length_map] at hvw |-;have VW:=aA hvw;clear ho1 hown HW hvw;go_wp2_with fail
 go_loopw [6,18] (fun vt vi wr=>W1I w1 l vt vi wr) (fun _ vi _=>l.length-(intOf vi).toNat)
 case atStart=>exact⟨0,Nat.zero_le _,rfl,rfl,aR _ _⟩
 case round =>
  obtain⟨k,hk,rfl,rfl,ho⟩:=hrel;have OO:=aA ho;clear ho;by_cases hlt:k<l.length
  ·obtain⟨bk,off,hp,hb,c0⟩:=VW.out.i64 (k:=k) OO.out (by rw[length_map];exact hlt)
   subst hp;have hle:=OO.out.size;have hb':bk<wr.heap.size:=by omega
   rw[List.getElem_map] at c0;have hwb:=qH (HG.out.ok _ (getElem_mem hlt))
   have HSN:Hid (dO (l.take (k+1))=dO (l.take k)+kU l[k]):=aA (by
    rw[List.take_succ_eq_append_getElem hlt,JQ])
   have htb:=oJ (l:=l.take k) (fun c hc=>HG.out.ok c (mem_of_mem_take hc));rw[length_take,Nat.min_eq_left hk] at htb;obtain⟨tb1,tb2,_⟩:=htb;generalize dO (l.take k)=acc at HSN tb1 tb2 |-;generalize kU l[k]=wt at HSN c0 hwb;have tb3:acc<=12884901888:=by omega
   clear tb2;go_wp2_with fail
   go_roundw
   case rel=>exact⟨k+1,by omega,by go_num,by rw[HSN.out],OO.out⟩
   case measure=>first|(simp[intOf];done)|(simp[intOf];omega)
  ·have HC:Hid (l.take k=l):=aA (take_of_length_le (by omega))
   have htb:=oJ HG.out.ok;rw[HC.out];obtain⟨tot,htot⟩:∃ tot,dO l=tot:=⟨_,rfl⟩;rw[htot] at htb |-;have HT:=aA htb;have HTO:=aA htot;have ht2:tot<17179869184:=by have:=htb.2.1;omega
   have VX:=aA (VW.out.kept OO.out);have HVX:=aA (HV.out.kept (O1.out.aB OO.out));have BX:=aA ((O1.out.aB OO.out).got BB.out (by simp));have OX:=aA (O1.out.aB OO.out);clear htb htot HC VW HV BB O1 OO;obtain⟨wo,rfl⟩:∃ wo:World,wo=wr:=⟨_,rfl⟩;go_wp2_with fail
   clear hk hlt;go_loopw [9,28] (fun vs vi wr=>W2I wo l (yS x) tot vs vi wr) (fun _ vi _=>l.length-(intOf vi).toNat)
   case atStart=>exact⟨0,Nat.zero_le _,rfl,rfl,aR _ _⟩
   case round =>
    obtain⟨k,hk,rfl,rfl,ho⟩:=hrel;have OO:=aA ho;clear ho;by_cases hlt:k<l.length
    ·obtain⟨bw,ow,hp,hb,d0⟩:=VX.out.i64 (k:=k) OO.out (by rw[length_map];exact hlt)
     subst hp;obtain⟨bk,off,hp,hb2,c0,c1,c2,c3,c4⟩:=HVX.out.cd OO.out hlt;subst hp;have hle:=OO.out.size;have hb':bw<wr.heap.size:=by omega
     have hb2':bk<wr.heap.size:=by omega
     rw[List.getElem_map] at d0;have hxo:=HG.out.ok _ (getElem_mem hlt);have hwb:=qH hxo;have hwt:kU l[k]<=tot:=HT.out.2.2 _ (getElem_mem hlt);have hxb:=iM hxo
     have HSN:Hid (ws (yS x) tot (l.take (k+1))=ws (yS x) tot (l.take k)+kU l[k]*yS x l[k] / tot):=aA (by
      rw[List.take_succ_eq_append_getElem hlt,PU];rfl)
     have hpb:=HWB.out k;have hpb2:=HWB.out (k+1);have hvb:=HVB.out l[k] hxo;rw[HTO.out] at hpb hpb2;rw[HSN.out] at hpb2;have hprt: -9223372036854775808<=kU l[k]*yS x l[k] / tot/\kU l[k]*yS x l[k] / tot<=9223372036854775807:=by omega
     have hpr1:=gH hprt.1 hprt.2;have HM1:=aA (fun w' (ho:Oy [] wo w')=>pJit1 (ho.got BX.out (by simp)) l[k] hxo HF.out.1 HF.out.2);have HMD:=aA (fun w'=>j5 (mU (kU l[k]) (yS x l[k]) tot w' (by omega) (by omega) (by omega) (by omega) (by omega) (by omega)));rw[hpr1] at HMD;generalize ws (yS x) tot (l.take k)=acc at HSN hpb hpb2 |-;generalize kU l[k]*yS x l[k] / tot=pr at HSN hprt HMD hpb2;have r1:wrap .i64 (acc+pr)=acc+pr:=by rw[wrap_i64];omega
     clear hpr1;generalize kU l[k]=wt at d0 HMD;generalize l[k]=x at c0 c1 c2 c3 c4 HM1 HMD;obtain⟨id,of,di,ji,st⟩:=x;unfold yJ at HM1;dsimp only at c0 c1 c2 c3 c4 HM1 HMD;generalize yS x ⟨id,of,di,ji,st⟩=df at HM1 HMD;generalize NT pr=okb at HMD;clear hpb hpb2 hvb hprt hxo hwb hwt hxb;go_wp2_with fail
     refine (HM1.out wr OO.out).mono ?_;rintro e w3 ⟨rfl,ho3⟩;have O3:=aA (OO.out.aB ho3);clear ho3 HM1 OO c0 c1 c2 c3 c4 d0 hb' hb2';go_wp2_with fail
     refine (HMD.out w3).mono ?_;rintro e w4 ⟨rfl,ho4⟩;have O4:=aA (O3.out.aB ho4);clear ho4;clear HMD O3;go_wp2;go_roundw
     case rel=>exact⟨k+1,by omega,by go_num,by rw[HSN.out],O4.out⟩
     case measure=>first|(simp[intOf];done)|(simp[intOf];omega)
    ·have HC:Hid (l.take k=l):=aA (take_of_length_le (by omega))
     rw[HC.out];go_wp2;go_ret
     exact⟨by rw[HTO.out];rfl,OX.out.aB OO.out⟩
theorem zR {l:List Cd} (hg:Gd l) (h0:0<l.length): -112589990684262400<=gZ l/\gZ l<=112589990684262400/\ -4503599627370496<=(l.headD default).off/\(l.headD default).off<=4503599627370496/\ -9007199254740992-12<=ws (mE (l.headD default).off) (dO l) l/\ws (mE (l.headD default).off) (dO l) l<=9007199254740992:=by
 have hc:=iM (hg.ok _ (getElem_mem h0));have he:l.headD default=l[0]:=by cases l with|nil=>simp at h0|cons=>rfl
 have h:=zI (val:=mE (l.headD default).off) (B:=9007199254740992) (by decide) h0 (fun c hc'=>⟨hg.ok c hc',QZ (hg.ok c hc') (by rw[he];omega) (by rw[he];omega)⟩) l.length;rw[take_length] at h;have hl:=hg.len;unfold gZ;rw[he] at h |-;omega
theorem pMean {w:World} {p:Option Addr} {n cap:Nat} {l:List Cd} (hv:aU iZ 5 w p n cap l) (hg:Gd l) (h0:0<l.length)  :
  Calls Tryz.prog 240 #[.slice p n cap] w fun e w'=>e=.returned (.tuple #[.int .i64 (gZ l),.int .i64 0])/\Oy [] w w':=by
 have hln:=hv.len;subst hln;have hlb:=hg.len;obtain⟨hm1,hm2,f0,f1,hw1,hw2⟩:=zR hg h0;have HCK:=aA (fun w' (o:Oy [] w w')=>(by have h:=uK (hv.kept o) (by omega);rwa [mV.2 hg] at h:Calls Tryz.prog 250 #[.slice p l.length cap] w' fun e w2=>e=.returned (.int .i64 0)/\Oy [] w' w2));have he:l.headD default=l[0]:=by cases l with|nil=>simp at h0|cons=>rfl
 have HW:=aA (fun w' b (o:Oy [] w w') hb=>pWtMean (w:=w') (b:=b) (x:=(l.headD default).off) (hv.kept o) hg hb h0 f0 f1);obtain⟨b,off,rfl,hb,HC⟩:=hv.at h0;have HX:=aA (HC 0 h0);rw[Nat.zero_mul,Nat.add_zero,<-he] at HX;clear he;unfold gZ at hm1 hm2 |-;generalize l.headD default=z at HW HX hm1 hm2 hw1 hw2 |-;obtain⟨zi,x,zd,zj,zs⟩:=z;dsimp only at HW HX hm1 hm2 hw1 hw2 |-;generalize ws (mE x) (dO l) l=s at HW hm1 hm2 hw1 hw2 |-;have r1:wrap .i64 (x+s)=x+s:=by rw[wrap_i64];omega
 have hne:((l.length:Int) == 0)=false:=by rw[beq_eq_false_iff_ne];omega
 have hl0:(0:Int)<(l.length:Int):=by omega
 clear hv hg HC hm1 hm2 f0 f1 hw1 hw2;obtain⟨wo,rfl⟩:∃ wo:World,wo=w:=⟨_,rfl⟩;have m:=bJ wo [];have k:=m.zK;have c:=HX.out wo (aR [] wo);go_enter Tryz.func240,Tryz.ntmps240
 go_wp2_with (first|((with_reducible first|refine cU ?_|refine cM (HCK.out _ gO) ?_|refine wU ?_);clear k m c;intro w m k;have c:=HX.out w m.zO)|((with_reducible refine iY (id:=7) [0,1,2,3,4,5,6] [] ?_);simp only[bV];(repeat' (first|go_big_quiet_step (with_reducible first|exact gX (HW.out _ _ RH gP))|(refine wpQuiet_step (fun K hK=>?_);go_simp;(first|(refine hK _ ?_;clear hK K)|(split<;>(refine hK _ ?_;clear hK K))))));all_goals (refine wpQuiet_nil ?_;clear k m c;intro w m k;have c:=HX.out w m.zO))|((with_reducible refine lF (fun w _=>⟨rfl,?_⟩));simp[results,Tryz.results240,go_sem]))
theorem Z7 {l:List Cd} (hg:Gd l) (h0:0<l.length):0<=xG l/\xG l<=4294967296/\ -1152921504606846976-12<=ws (yS (gZ l)) (dO l) l/\ws (yS (gZ l)) (dO l) l<=1152921504606846976:=by
 obtain⟨m1,m2,_⟩:=zR hg h0;have h:=zI (val:=yS (gZ l)) (B:=1152921504606846976) (by decide) h0 (fun c hc'=>⟨hg.ok c hc',WK (hg.ok c hc') m1 m2⟩) l.length;rw[take_length] at h;have hl:=hg.len;have hi:=isq_bd (ws (yS (gZ l)) (dO l) l).toNat (by omega);unfold xG;omega
theorem ws_nn {val:Cd->Int} {tot:Int} (ht:0<=tot):∀ {l:List Cd},(∀ c∈l,CO c=true/\0<=val c)->0<=ws val tot l
 | [],_=>by simp[ws]
 | c::r,h=>by
  have hr:=ws_nn ht (l:=r) (fun x hx=>h x (List.mem_cons_of_mem _ hx));obtain⟨h1,h2⟩:=h c (mem_cons_self ..);have hw:=qH h1;have e:ws val tot (c::r)=TK val tot c+ws val tot r:=by simp[ws]
  have:=Int.ediv_nonneg (Int.mul_nonneg (show 0<=kU c by omega) h2) ht;rw[e];unfold TK;omega
theorem pJitter {w:World} {p:Option Addr} {n cap:Nat} {l:List Cd} (hv:aU iZ 5 w p n cap l) (hg:Gd l) (h0:0<l.length)  :
  Calls Tryz.prog 261 #[.slice p n cap] w fun e w'=>e=.returned (.int .i64 (xG l))/\Oy [] w w':=by
 have hln:=hv.len;subst hln;have hlb:=hg.len;obtain⟨m1,m2,_⟩:=zR hg h0;obtain⟨_,_,hj3,hj4⟩:=Z7 hg h0;have hnn:=ws_nn (val:=yS (gZ l)) (tot:=dO l) (by have:=(oJ hg.ok).1;omega) (l:=l) (fun c hc=>⟨hg.ok c hc,by unfold yS;omega⟩);have HM:=aA (fun w' (o:Oy [] w w')=>pMean (hv.kept o) hg h0);have HW:=aA (fun w' b (o:Oy [] w w') hb=>pWtJit (w:=w') (b:=b) (x:=gZ l) (hv.kept o) hg hb h0 m1 m2);unfold xG;generalize gZ l=x at HM HW hnn hj3 hj4 |-;generalize ws (yS x) (dO l) l=s at HW hnn hj3 hj4 |-;obtain⟨q,rfl⟩:∃ q:Nat,s=(q:Int):=⟨s.toNat,by omega⟩;rw[Int.toNat_natCast];have HS:=aA (fun w=>jH (fsqrt q w (by omega)));clear hv hg m1 m2 hnn hj3 hj4;obtain⟨wo,rfl⟩:∃ wo:World,wo=w:=⟨_,rfl⟩;have m:=bJ wo [];have k:=m.zK;go_enter Tryz.func261,Tryz.ntmps261
 go_wp2_with (first|((with_reducible first|refine cU ?_|refine cM (HM.out _ gO) ?_|refine cM (HW.out _ _ gO gB) ?_|refine cM (HS.out _) ?_|refine wU ?_);clear k m;intro w m k)|((with_reducible refine lF (fun w _=>⟨rfl,?_⟩));simp[results,Tryz.results261,go_sem]))
end
end Go.Proofs.YtppjhbjmfkiejaaGreat
