/- Texts of one chain: E4, E5, E6. Conditions: those named in each theorem. -/
import Derived.Test.YthbgcpfklmlnjaaGreatFV5
import Derived.Test.YthbgcpfklmlnjaaGreatFV3
import Derived.Test.YthbgcpfklmlnjaaGreatFV6
namespace Go.Proofs.YthbgcpfklmlnjaaGreat
open List (getElem_mem length_cons length_map length_take map_cons map_nil mem_cons_self mem_of_mem_take take_length take_of_length_le)
open IntKind (wrap_i64 wrap_u64)
open Go.Lib (hid)
set_option maxRecDepth 100000
set_option maxHeartbeats 4000000
section
open Go.RowKit Go.Sort
def tH (l:List Cd):List Cd:=(Sort.insertionSort (ltOf ZN) l.toArray 0 l.length).toList
theorem jC (l:List Cd):(tH l).Perm l:=by
 have h:=(insertionSort_holds (lt:=ltOf ZN) cfC_swo l.toArray 0 l.length (Nat.zero_le _) (by simp)).1;obtain⟨h1,_,h3⟩:=h;unfold tH;generalize Sort.insertionSort (ltOf ZN) l.toArray 0 l.length=d at h1 h3;have e1:d.extract 0 l.length=d:=by rw[show l.length=d.size by rw[h1];simp];simp
 have e2:l.toArray.extract 0 l.length=l.toArray:=by simp
 rw[e1,e2] at h3;simpa using h3
theorem sortf_x {w:World} {g cap:Nat} {l:List Cd} (h:aP iU 338 5 w g cap l) (hl:l.length<=12) :
  Calls Tryz.prog 267 #[.slice (some ⟨g,0,none⟩) l.length cap,.func (.func 268) #[] #[]] w fun e w'=>e=.returned (.tuple #[])/\aP iU 338 5 w' g cap (tH l)/\Only [g] w w':=by
 obtain⟨cur,hg,h1,h2,h3,h4⟩:=h;have hfl:=oL iU 5 dM l
 have hold:HoldsK iU 5 w g 0 l.toArray:=by
  intro j hj;rw[Nat.zero_add];refine⟨?_,aM hg j⟩;have hj':j<l.length*5:=by simpa using hj
  rw[aA hg,<-Array.getElem?_toList,<-List.getElem?_take_of_lt hj',h4,<-hfl,Array.getElem?_toList,getElem!_pos _ j hj,Array.getElem?_eq_getElem hj];rfl
 have hs:l.toArray.size=l.length:=by simp
 have hc:=AnyQ.slices_SortFunc_small Tryz.laySortF 5 Tryz.isAgg338 Tryz.sizeOf338 iU dM zM ZN 268 #[] g 0 cap l.toArray w (enters_of Tryz.func268 (by kernel_rfl) rfl) (fun _ _ _ _ x y=>SB x y _) hold (aD hg) (by simpa using hl) (fun n W hn=>(Tryz.bits_Len n W (by omega) (by omega)).mono fun _ _ ⟨he,hw⟩=>⟨⟨_,he⟩,hw⟩);rw[hs] at hc;refine hc.mono ?_;rintro e w' ⟨rfl,n,os,rfl⟩;have hpm:=jC l;obtain⟨d',hd'⟩:∃ d',Sort.insertionSort (ltOf ZN) l.toArray 0 l.length=d':=⟨_,rfl⟩;have ho:tH l=d'.toList:=by rw[<-hd'];rfl
 rw[ho] at hpm |-;rw[hd'];have hd:d'.size=l.length:=by simpa using hpm.length_eq
 refine⟨rfl,⟨_,qH hg,by rw[mP];omega,by rw[hpm.length_eq];exact h2,h3,?_⟩,qG⟩;have hf2:=oL iU 5 dM d'.toList;have hle:(flatK iU 5 d').size<=cur.size:=by simp;rw[hd];omega
 have:=mO id (flatK iU 5 d') cur hle;rw[List.map_id,show d'=d'.toList.toArray by simp,hf2] at this;rw[<-this];simp
abbrev CdF (w:World) (b o:Nat) (c:Cd):Prop:=b<w.heap.size/\w.cell? ⟨b,o,none⟩=some (.int .i64 c.id)/\w.cell? ⟨b,o+1,none⟩=some (.int .i64 c.off)/\w.cell? ⟨b,o+2,none⟩=some (.int .i64 c.dist)/\w.cell? ⟨b,o+3,none⟩=some (.int .i64 c.jit)/\w.cell? ⟨b,o+4,none⟩=some (.int .i64 c.str)
theorem aS.at {w:World} {p:Option Addr} {n cap:Nat} {l:List Cd} (hv:aS iU 5 w p n cap l) (h0:0<l.length):∃ b off,p=some ⟨b,off,none⟩/\b<w.heap.size/\∀ k (hk:k<l.length) w',Only [] w w'->CdF w' b (off+k*5) l[k]:=by
 obtain⟨b,off,hp,hb,_⟩:=hv.cd (Only.refl [] w) h0;refine⟨b,off,hp,hb,fun k hk w' ho=>?_⟩;obtain⟨b',off',hp',hb',h⟩:=hv.cd ho hk;obtain⟨rfl,rfl⟩:b=b'/\off=off':=by rw[hp] at hp';simpa using hp'
 exact⟨Nat.lt_of_lt_of_le hb ho.size,h⟩
def lstC (l:List Cd):Int:=l.foldl (fun m c=>min m c.jit) (l.headD default).jit
def xC (a b:Int):Nat:=min (a-b).natAbs 1073741824*min (a-b).natAbs 1073741824
def LB (y:Int) (l:List Cd):Nat:=(l.map (fun c=>xC y c.off)).sum
def U2 (l:List Cd) (i:Nat):Nat:=SX (LB (l.getD i default).off l / (l.length-1))
def TF (l:List Cd) (p:Nat × Nat) (i:Nat):Nat × Nat:=if p.2<=U2 l i then (i,U2 l i) else p
def GU (l:List Cd):Nat × Nat:=(List.range l.length).foldl (TF l) (0,0)
def mQ (keep:Int):Nat->List Cd->List Cd
 | 0,l=>l
 | n+1,l=>if keep<l.length then (if ((GU l).2:Int)<=lstC l then l else mQ keep n (l.take (GU l).1 ++ l.drop ((GU l).1+1))) else l
theorem vW (a b:Int):xC a b<=1152921504606846976:=Nat.mul_le_mul (Nat.min_le_right _ _) (Nat.min_le_right _ _)
theorem U5 (y:Int):∀ l:List Cd,LB y l<=l.length*1152921504606846976
 | []=>by simp[LB]
 | c::l=>by
  have h1:=U5 y l;have h2:=vW y c.off;simp only[LB,map_cons,List.sum_cons,length_cons] at *;omega
theorem U4 (y:Int) (l:List Cd) (c:Cd):LB y (l ++ [c])=LB y l+xC y c.off:=by simp[LB]
theorem jB {α:Type} (l:List α) {k:Nat} (h:k<l.length):l.take (k+1)=l.take k ++ [l[k]]:=by rw[List.take_add_one,List.getElem?_eq_getElem h];rfl
theorem isq_bd (n:Nat) (h:n<=9223372036854775807):SX n<=4294967296:=by
 have:=YR (n:=n) (by omega);omega
def OrX (w0:World) (l:List Cd) (e:Ending) (w:World):Prop:=∃ g cap,e=.returned (.slice (some ⟨g,0,none⟩) (tH l).length cap)/\w0.heap.size<=g/\aP iU 338 5 w g cap (tH l)
theorem PG {w:World} {p:Option Addr} {n cap:Nat} {l:List Cd} (hv:aS iU 5 w p n cap l) (hg:Gd l) (h0:0<l.length) :
  Calls Tryz.prog 239 #[.slice p n cap] w fun e w'=>OrX w l e w'/\Only [] w w':=by
 have hln:=hv.len;subst hln;have hlb:=hg.len;have hck:=sZ hv (by omega);rw[mH.2 hg] at hck;have HCK:=hid hck;have HCL:=hid (fun w' (ho:Only [] w w')=>cloneC (hv.kept ho) h0 (by omega));clear hv hg hck;go_enter Tryz.func239,Tryz.ntmps239
 go_wp2_with fail
 refine HCK.out.mono ?_;rintro e w1 ⟨rfl,ho1⟩;have O1:=hid ho1;clear ho1;go_wp2_with fail
 refine (HCL.out w1 O1.out).mono ?_;rintro e w2 ⟨⟨g,cap',rfl,hg,hr⟩,ho2⟩;have HG:Hid (w.heap.size<=g):=hid (Nat.le_trans O1.out.size hg);have O2:=hid (O1.out.aB ho2);have HS:=hid (sortf_x hr hlb);clear ho2 hg hr;go_wp2_with fail
 refine HS.out.mono ?_;rintro e w3 ⟨rfl,hr,ho3⟩;have O3:=hid (O2.out.trans ho3 (fun x hx=>.inr (by rw[List.mem_singleton] at hx;rw[hx];exact HG.out)));have HR:=hid hr;have hl:=(jC l).length_eq;clear ho3 hr;go_wp2;go_ret
 exact⟨⟨g,cap',by rw[hl];rfl,HG.out,HR.out⟩,O3.out⟩
theorem YH {l:List Cd} (hg:Gd l) (h0:0<l.length):∀ k,k<=l.length->0<=(l.take k).foldl (fun m c=>min m c.jit) (l.headD default).jit/\(l.take k).foldl (fun m c=>min m c.jit) (l.headD default).jit<=9007199254740992
 | 0,_=>by
  have:=iG (hg.ok _ (getElem_mem h0));rw[List.take_zero,List.foldl_nil,show l.headD default=l[0] by cases l with|nil=>simp at h0|cons=>rfl];omega
 | k+1,h=>by
  have h1:=YH hg h0 k (by omega);have:=iG (hg.ok _ (getElem_mem (show k<l.length by omega)));rw[jB l (by omega),List.foldl_append,List.foldl_cons,List.foldl_nil];omega
def LjX (w:World) (l:List Cd) (vm vi:Value) (wr:World):Prop:=∃ k:Nat,k<=l.length/\vi=.int .i64 k/\vm=.int .i64 ((l.take k).foldl (fun m c=>min m c.jit) (l.headD default).jit)/\Only [] w wr
theorem pLeastX {w:World} {p:Option Addr} {n cap:Nat} {l:List Cd} (hv:aS iU 5 w p n cap l) (hg:Gd l) (h0:0<l.length)  :
  Calls Tryz.prog 241 #[.slice p n cap] w fun e w'=>e=.returned (.int .i64 (lstC l))/\Only [] w w':=by
 have hln:=hv.len;subst hln;have hlb:=hg.len;obtain⟨b,off,rfl,hb,HC⟩:=hv.at h0;have HB:=hid (YH hg h0);have HQ:=hid (show (l.headD default).jit=l[0].jit by cases l with|nil=>simp at h0|cons=>rfl);have HX:=hid HC;have c:=HC 0 h0 w (Only.refl [] w);clear hv hg HC;simp only[Nat.zero_mul,Nat.add_zero] at c;have hl0:(0:Int)<(l.length:Int):=by omega
 go_enter Tryz.func241,Tryz.ntmps241
 go_wp2_with fail
 go_loopw [3,12] (fun vm vi wr=>LjX w l vm vi wr) (fun _ vi _=>l.length-(intOf vi).toNat)
 case atStart=>exact⟨0,Nat.zero_le _,rfl,by rw[List.take_zero,List.foldl_nil,HQ.out],Only.refl _ _⟩
 case round =>
  clear c;obtain⟨i,hk,rfl,rfl,ho⟩:=hrel;have OO:=hid ho;by_cases hlt:i<l.length
  ·have HX:=hid (fun w' (o:Only [] wr w')=>HX.out i hlt w' (OO.out.aB o))
   have hs:=jB l hlt;have hb1:=HB.out (i+1) (by omega);rw[hs,List.foldl_append,List.foldl_cons,List.foldl_nil] at hb1;have HS:=hid hs;generalize hf:(l.take i).foldl (fun m c=>min m c.jit) (l.headD default).jit=f at hb1 |-;have HF:=hid hf;clear hf hs;have m:=dD wr [];have k:=m.out.k;have c:=HX.out wr (Only.refl [] wr);go_wp2_with (first|((with_reducible refine wU ?_);clear k m c;intro w m k;have c:=HX.out w m.out.only)|(go_roundw;(case rel=>exact⟨i+1,by omega,by go_num,by rw[HS.out,List.foldl_append,HF.out];rfl,OO.out.aB gO⟩);(case measure=>first|(simp[intOf];done)|(simp[intOf];omega))))
  ·obtain rfl:i=l.length:=by omega
   rw[take_length];go_wp2;go_ret
   exact⟨rfl,OO.out⟩
def SpX (w:World) (l:List Cd) (y:Int) (vs vi:Value) (wr:World):Prop:=∃ k:Nat,k<=l.length/\vi=.int .i64 k/\vs=.int .u64 (LB y (l.take k))/\Only [] w wr
theorem U3 {s n dv:Nat} (h:s<=min n n*1152921504606846976) (hd:n-1=dv) (h2:2<=n):s / dv<=4611686018427387904:=by
 have e:dv*4611686018427387904=(4*dv)*1152921504606846976:=by omega
 refine Nat.div_le_of_le_mul (Nat.le_trans h ?_);rw[e,Nat.min_self];exact Nat.mul_le_mul_right _ (by omega)
theorem MJ (a b:Int):(min ((a-b).natAbs:Int) 1073741824)*(min ((a-b).natAbs:Int) 1073741824)=(xC a b:Int):=by
 unfold xC;rw[show min ((a-b).natAbs:Int) 1073741824=((min (a-b).natAbs 1073741824:Nat):Int) by omega];simp
theorem WS {w:World} {p:Option Addr} {n cap i:Nat} {l:List Cd} (hv:aS iU 5 w p n cap l) (hg:Gd l) (h2:2<=l.length) (hi:i<l.length)  :
  Calls Tryz.prog 270 #[.slice p n cap,.int .i64 i] w fun e w'=>e=.returned (.int .i64 (U2 l i))/\Only [] w w':=by
 have hln:=hv.len;subst hln;have hlb:=hg.len;obtain⟨b,off,rfl,hb,HC⟩:=hv.at (by omega);have hck:=sZ hv (by omega);rw[mH.2 hg] at hck;have HCK:=hid (fun w' (o:Only [] w w')=>(by have h:=sZ (hv.kept o) (by omega);rwa [mH.2 hg] at h:Calls Tryz.prog 235 #[.slice (some ⟨b,off,none⟩) l.length cap] w' fun e w2=>e=.returned (.int .i64 0)/\Only [] w' w2));have HX:=hid HC;have HG:=hid hg;have d1:decide ((l.length:Int)<2)=false:=by simp;omega
 have d2:decide ((l.length:Int)<=(i:Int))=false:=by simp;omega
 have d3:decide (l.length<=i)=false:=by simp;omega
 have d4:decide (l.length<2)=false:=by simp;omega
 have hgd:l.getD i default=l[i]:=by rw[List.getD_eq_getElem?_getD,List.getElem?_eq_getElem hi];rfl
 have hy:=iG (hg.ok _ (getElem_mem hi));unfold U2;rw[hgd];obtain⟨res,HE⟩:∃ r:Nat,Hid (SX (LB l[i].off l / (l.length-1))=r):=⟨_,hid rfl⟩;rw[HE.out];clear hv hg HC hck hgd;obtain⟨wo,hwo⟩:∃ wo:World,wo=w:=⟨_,rfl⟩;subst hwo;have m:=dD wo [];have k:=m.out.k;go_enter Tryz.func270,Tryz.ntmps270
 go_wp2_with ((with_reducible refine cM (HCK.out _ gO) ?_);clear k m;intro w m k)
 have O1:=hid m.out.only;go_loopw [5,32] (fun vs vi wr=>SpX wo l l[i].off vs vi wr) (fun _ vi _=>l.length-(intOf vi).toNat)
 case atStart=>exact⟨0,Nat.zero_le _,rfl,rfl,O1.out⟩
 case round =>
  clear k m;obtain⟨j,hk,rfl,rfl,ho⟩:=hrel;have OO:=hid ho;have hsb:=U5 l[i].off (l.take j);rw[length_take] at hsb;by_cases hlt:j<l.length
  ·have HX:=hid (fun w' (o:Only [] wr w')=>And.intro (HX.out j hlt w' (OO.out.aB o)) (HX.out i hi w' (OO.out.aB o)))
   have hz:=iG (HG.out.ok _ (getElem_mem hlt));have hq:=vW l[i].off l[j].off;have hm:=MJ l[i].off l[j].off;have HS:=hid (show LB l[i].off (l.take (j+1))=LB l[i].off (l.take j)+xC l[i].off l[j].off by rw[jB l hlt,U4]);generalize l[i]=y at hy hz hq hm HS HX hsb |-;generalize l[j]=z at hz hq hm HS HX hsb |-;obtain⟨y0,y1,y2,y3,y4⟩:=y;obtain⟨z0,z1,z2,z3,z4⟩:=z;dsimp only at hy hz hq hm HS HX hsb |-;have HA:=hid (fun w=>jD (fabs (y1-z1) w (by omega) (by omega)));have r1:IntKind.i64.wrap (y1-z1)=y1-z1:=by rw[wrap_i64];omega
   have r2:IntKind.i64.wrap (xC y1 z1:Int)=(xC y1 z1:Int):=by rw[wrap_i64];omega
   have r3:IntKind.u64.wrap (xC y1 z1:Int)=(xC y1 z1:Int):=by rw[wrap_u64];omega
   have r4:IntKind.u64.wrap ((LB y1 (l.take j):Int)+(xC y1 z1:Int))=((LB y1 (l.take j)+xC y1 z1:Nat):Int):=by rw[wrap_u64];omega
   rw[<-HS.out] at r4;generalize hs2:LB y1 (l.take (j+1))=s2 at HS r4;have H2:=hid hs2;clear hs2;generalize LB y1 (l.take j)=s1 at HS r4 hsb |-;generalize xC y1 z1=q at r2 r3 r4 hm HS hq;generalize (y1-z1).natAbs=d at HA hm;clear hsb hq hy hz;have m:=dD wr [];have k:=m.out.k;have c:=HX.out wr (Only.refl [] wr);go_wp2_with (first|((with_reducible first|refine cM (HA.out _) ?_|refine wU ?_);clear k m c;intro w m k;have c:=HX.out w m.out.only)|((with_reducible refine rG (id:=7) [0,1,2,3,4,5,6,7,8,9,10,11,12,13] [] (by kernel_rfl) (by kernel_rfl) ?_);simp only[pick,map_cons,map_nil,List.getD_cons_succ,List.getD_cons_zero];(repeat' (first|go_big_quiet_step (with_reducible first|exact gX (HA.out _))|(refine wpQuiet_step (fun K hK=>?_);go_simp;(first|(refine hK _ ?_;clear hK K)|(split<;>(refine hK _ ?_;clear hK K))))));all_goals (refine wpQuiet_nil ?_;clear k m c;intro w m k;have c:=HX.out w m.out.only))|(go_roundw;(case rel=>exact⟨j+1,by omega,by go_num,by rw[H2.out],OO.out.aB gO⟩);(case measure=>first|(simp[intOf];done)|(simp[intOf];omega))))
  ·obtain rfl:j=l.length:=by omega
   rw[take_length] at hsb;rw[take_length];obtain⟨dv,hdv⟩:∃ dv,l.length-1=dv:=⟨_,rfl⟩;have hdi:(l.length:Int)-1=(dv:Int):=by omega
   have hd0:((dv:Int) == 0)=false:=by rw[beq_eq_false_iff_ne];omega
   have hd1:¬ (dv:Int)=0:=by omega
   have hs0:=U3 hsb hdv h2;rw[hdv] at HE;generalize LB l[i].off l=s at hs0 hsb HE |-;have e1:(s:Int) / (dv:Int)=((s / dv:Nat):Int):=by simp
   have e3:IntKind.u64.wrap (dv:Int)=(dv:Int):=by rw[wrap_u64];omega
   have HS:=hid (fun w=>jD (YZ (s / dv) w (by omega)));generalize s / dv=q at HS e1 HE hs0;have e2:IntKind.i64.wrap (q:Int)=(q:Int):=by rw[wrap_i64];omega
   have e4:IntKind.u64.wrap (q:Int)=(q:Int):=by rw[wrap_u64];omega
   obtain rfl:=HE.out;clear hs0 hsb;have m:=dD wr [];have k:=m.out.k;go_wp2_with (first|((with_reducible first|refine cM (HS.out _) ?_|refine wU ?_);clear k m;intro w m k)|((with_reducible refine lE (fun w o g k K hK=>⟨rfl,?_⟩));simp[results,Tryz.results270,go_sem];refine hK _ ?_;exact⟨rfl,OO.out.aB o⟩))
end
section
open Go.RowKit
def BR (l:List Cd) (k:Nat):Nat × Nat:=(List.range k).foldl (TF l) (0,0)
theorem wQ (l:List Cd) (k:Nat):BR l (k+1)=TF l (BR l k) k:=by unfold BR;rw[List.range_succ,List.foldl_append];rfl
theorem GR (l:List Cd):∀ k,0<k->(BR l k).1<k
 | 0,h=>by omega
 | 1,_=>by rw[wQ];unfold TF;split<;>simp[BR]
 | k+2,_=>by
  have:=GR l (k+1) (by omega);rw[wQ];unfold TF;split
  ·simp
  ·omega
def FaX (w:World) (l:List Cd) (vw vg vi:Value) (wr:World):Prop:=∃ k:Nat,k<=l.length/\vi=.int .i64 k/\vw=.int .i64 (BR l k).1/\vg=.int .i64 (BR l k).2/\Only [] w wr
theorem pFarX {w:World} {p:Option Addr} {n cap:Nat} {l:List Cd} (hv:aS iU 5 w p n cap l) (hg:Gd l) (h2:2<=l.length)  :
  Calls Tryz.prog 240 #[.slice p n cap] w fun e w'=>e=.returned (.tuple #[.int .i64 (GU l).1,.int .i64 (GU l).2])/\Only [] w w':=by
 have hln:=hv.len;subst hln;have hlb:=hg.len;have HV:=hid hv;have HG:=hid hg;rw[show GU l=BR l l.length from rfl];clear hv hg;go_enter Tryz.func240,Tryz.ntmps240
 go_wp2_with fail
 go_loopw [4,5,10] (fun vw vg vi wr=>FaX w l vw vg vi wr) (fun _ _ vi _=>l.length-(intOf vi).toNat)
 case atStart=>exact⟨0,Nat.zero_le _,rfl,rfl,rfl,Only.refl _ _⟩
 case round =>
  obtain⟨i,hk,rfl,rfl,rfl,ho⟩:=hrel;have OO:=hid ho;by_cases hlt:i<l.length
  ·have HSP:=hid (fun w' (o:Only [] wr w')=>WS (HV.out.kept (OO.out.aB o)) HG.out h2 hlt)
   have HS:=hid (wQ l i);unfold TF at HS;generalize U2 l i=s at HSP HS;obtain⟨⟨j,q⟩,hf⟩:∃ f,BR l i=f:=⟨_,rfl⟩;rw[hf] at HS |-;dsimp only at HS |-;clear hf ho;have m:=dD wr [];have k:=m.out.k;go_wp2_with (first|((with_reducible first|refine cM (HSP.out _ gO) ?_|refine wU ?_);clear k m;intro w m k)|(go_roundw;(case rel=>exact⟨i+1,by omega,by go_num,by rw[HS.out];grind,by rw[HS.out];grind,OO.out.aB gO⟩);(case measure=>first|(simp[intOf];done)|(simp[intOf];omega))))
  ·obtain rfl:i=l.length:=by omega
   go_wp2;go_ret2;exact⟨rfl,OO.out⟩
def sliceLen:Value->Nat
 | .slice _ n _=>n
 | _=>0
def PrX (w:World) (keep:Int) (g cap:Nat) (res:List Cd) (vl:Value) (wr:World):Prop:=∃ (n:Nat) (l':List Cd),l'.length<=n/\mQ keep n l'=res/\vl=.slice (some ⟨g,0,none⟩) l'.length cap/\aP iU 338 5 wr g cap l'/\Gd l'/\0<l'.length/\Only [] w wr
theorem KH {l:List Cd} {j:Nat} (h:Gd l) (hj:j<l.length):Gd (l.take j ++ l.drop (j+1))/\(l.take j ++ l.drop (j+1)).length=l.length-1:=by
 rw[<-List.eraseIdx_eq_take_drop_succ];exact⟨h.sub (List.eraseIdx_sublist _ _),List.length_eraseIdx_of_lt hj⟩
def R6 (keep:Int) (l:List Cd):List Cd:=mQ keep l.length (tH l)
theorem JE {keep:Int} (hkp:1<=keep):∀ (n:Nat) {l:List Cd},Gd l->0<l.length->Gd (mQ keep n l)/\0<(mQ keep n l).length/\∀ c∈mQ keep n l,c∈l
 | 0,l,h,h0=>⟨h,h0,fun _ h=>h⟩
 | n + 1,l,h,h0=>by
  unfold mQ;split
  ·rename_i hk
   split
   ·exact⟨h,h0,fun _ h=>h⟩
   ·have hj:=GR l l.length h0
    rw[show GU l=BR l l.length from rfl];obtain⟨h1,h2⟩:=KH h hj;obtain⟨a,b,c⟩:=JE hkp n h1 (by omega)
    exact⟨a,b,fun x hx=>by
     have:=c x hx;rw[<-List.eraseIdx_eq_take_drop_succ] at this;exact (List.eraseIdx_sublist _ _).subset this⟩
  ·exact⟨h,h0,fun _ h=>h⟩
theorem pPruneX {w:World} {p:Option Addr} {n cap:Nat} {l:List Cd} (hv:aS iU 5 w p n cap l) (hg:Gd l) (h0:0<l.length) (keep:Int) (hkp:1<=keep) :
  Calls Tryz.prog 224 #[.slice p n cap,.int .i64 keep] w fun e w'=>(∃ g cap,e=.returned (.tuple #[.slice (some ⟨g,0,none⟩) (R6 keep l).length cap,.int .i64 0])/\w.heap.size<=g/\aP iU 338 5 w' g cap (R6 keep l))/\Only [] w w':=by
 have hln:=hv.len;subst hln;have hlb:=hg.len;have hck:=sZ hv (by omega);rw[mH.2 hg] at hck;have HCK:=hid hck;have HV:=hid hv;have HG:=hid hg;clear hv hg hck;have d1:decide (keep<1)=false:=by simp;omega
 unfold R6;have hp:=jC l;obtain⟨l2,hl2⟩:∃ l2,tH l=l2:=⟨_,rfl⟩;rw[hl2] at hp |-;obtain⟨res,hres⟩:∃ res,mQ keep l.length l2=res:=⟨_,rfl⟩;rw[hres];have HRES:=hid hres;have HL2:=hid hl2;have HPM:=hid hp;clear hl2 hres hp;go_enter Tryz.func224,Tryz.ntmps224
 go_wp2_with fail
 refine HCK.out.mono ?_;rintro e w1 ⟨rfl,ho1⟩;have O1:=hid ho1;clear ho1 HCK;have HO:=hid (PG (HV.out.kept O1.out) HG.out h0);go_wp2_with fail
 refine HO.out.mono ?_;rintro e w2 ⟨⟨g,cap2,rfl,hge,hr⟩,ho2⟩;have O2:=hid (O1.out.aB ho2);have R2:=hid hr;have HGE:Hid (w.heap.size<=g):=hid (Nat.le_trans O1.out.size hge);have hp:=HPM.out;have G2:=hid (HG.out.perm hp);have h02:0<l2.length:=by rw[hp.length_eq];exact h0
 have hlq:=hp.length_eq;rw[HL2.out] at R2 |-;clear ho2 hr hge hp HO;go_wp2_with fail
 go_loopw [7] (fun vl wr=>PrX w keep g cap2 res vl wr) (fun vl _=>sliceLen vl)
 case atStart=>exact⟨l.length,l2,by omega,HRES.out,by rw[HPM.out.length_eq],R2.out,G2.out,h02,O2.out⟩
 case round =>
  clear h02;obtain⟨nn,l',hnn,hpr,rfl,hr,hg',hl0,ho⟩:=hrel;obtain⟨n2,rfl⟩:∃ n2,nn=n2+1:=⟨nn-1,by omega⟩;have HP:=hid hpr;unfold mQ at HP;have hfar:=GR l' l'.length hl0;rw[show BR l' l'.length=GU l' from rfl] at hfar;clear hpr;have RR:=hid hr;have GG:=hid hg';have OO:=hid ho;have VV:=hid (hr.eH dM rfl);have hlb':=hg'.len;clear hr hg' ho;by_cases hgt:keep<(l'.length:Int)
  ·have q1:decide (keep<(l'.length:Int))=true:=dF hgt
   have HF:=hid (pFarX VV.out GG.out (by omega));go_wp2_with fail
   refine HF.out.mono ?_;rintro e w3 ⟨rfl,ho3⟩;generalize GU l'=fc at HP hfar |-;obtain⟨j,m⟩:=fc;dsimp only at HP hfar |-;have hj:=hfar;have O3:=hid (OO.out.aB ho3);have R3:=hid (RR.out.kept ho3 (by simp));have HL:=hid (pLeastX (VV.out.kept ho3) GG.out hl0);clear ho3 HF;go_wp2_with fail
   refine HL.out.mono ?_;rintro e w4 ⟨rfl,ho4⟩;generalize lstC l'=r at HP |-;have O4:=hid (O3.out.aB ho4);have R4:=hid (R3.out.kept ho4 (by simp));clear ho4 HL;by_cases hle:(m:Int)<=r
   ·have q2:decide ((m:Int)<=r)=true:=dF hle
    go_wp2_with fail
    go_ret2;obtain rfl:l'=res:=by rw[<-HP.out,if_pos (by omega),if_pos (by omega)]
    exact⟨⟨g,cap2,rfl,HGE.out,R4.out⟩,O4.out⟩
   ·have q2:decide ((m:Int)<=r)=false:=bR hle
    have hD:=deleteC R4.out hj (by omega);rw[show ((j+1:Nat):Int)=(j:Int)+1 by omega] at hD;have HD:=hid hD;clear hD;go_wp2_with fail
    refine HD.out.mono ?_;rintro e w5 ⟨rfl,hr5,ho5⟩;obtain⟨hg5,hl5⟩:=KH GG.out hj;rw[<-hl5];have O5:=hid (O4.out.trans ho5 (fun x hx=>.inr (by rw[List.mem_singleton] at hx;rw[hx];exact HGE.out)));have R5:=hid hr5;have G5:=hid hg5;have hl6:0<(l'.take j ++ l'.drop (j+1)).length:=by omega
    have hl7:(l'.take j ++ l'.drop (j+1)).length<l'.length:=by omega
    have HP5:=hid (show mQ keep n2 (l'.take j ++ l'.drop (j+1))=res by rw[<-HP.out,if_pos (by omega),if_neg (by omega)]);generalize l'.take j ++ l'.drop (j+1)=l5 at R5 G5 HP5 hl6 hl7 |-;clear hr5 ho5 hg5 hl5;go_wp2;go_roundw
    case rel=>exact⟨n2,l5,by omega,HP5.out,rfl,R5.out,G5.out,hl6,O5.out⟩
    case measure=>simpa [sliceLen] using hl7
  ·have q1:decide (keep<(l'.length:Int))=false:=bR hgt
   go_wp2_with fail
   go_ret2;obtain rfl:l'=res:=by rw[<-HP.out,if_neg (by omega)]
   exact⟨⟨g,cap2,rfl,HGE.out,RR.out⟩,OO.out⟩
theorem pSystem {w:World} {p:Option Addr} {n cap:Nat} {l:List Cd} (hv:aS iU 5 w p n cap l) (hg:Gd l) (h0:0<l.length)  :
  Calls Tryz.prog 248 #[.slice p n cap] w fun e w'=>e=.returned (.tuple #[.int .i64 ((tH l).headD default).id,.bool true])/\Only [] w w':=by
 have hln:=hv.len;subst hln;have HO:=hid (PG hv hg h0);have hl:=(jC l).length_eq;obtain⟨l2,hl2⟩:∃ l2,tH l=l2:=⟨_,rfl⟩;rw[hl2] at hl |-;have HL2:=hid hl2;have h2:0<l2.length:=by omega
 have he:l2.headD default=l2[0]:=by cases l2 with|nil=>simp at h2|cons=>rfl
 rw[he];clear hl2 hv hg;go_enter Tryz.func248,Tryz.ntmps248
 go_wp2_with fail
 refine HO.out.mono ?_;rintro e w2 ⟨⟨g,c2,rfl,hge,hr⟩,ho2⟩;have OO:=hid ho2;rw[HL2.out] at hr |-;obtain⟨b,off,hp,hb,HC⟩:=(hr.eH dM rfl).at h2;obtain⟨rfl,rfl⟩:g=b/\0=off:=by simpa using hp
 have c:=HC 0 h2 w2 (Only.refl [] w2);simp only[Nat.zero_mul,Nat.add_zero] at c;have q1:((l2.length:Int) == 0)=false:=by rw[beq_eq_false_iff_ne];omega
 have q2:(0:Int)<(l2.length:Int):=by omega
 clear HC hr ho2 HL2;go_wp2;go_ret2;exact⟨rfl,OO.out⟩
end
section
open Go.RowKit
def kL (c:Cd):Int:=max 1 (1073741824 / (c.dist / 1000+1))
theorem pX {c:Cd} (h:BI c=true):1<=kL c/\kL c<=1073741824:=by
 have hb:=iG h;unfold kL;have h0:0<=c.dist / 1000:=Int.ediv_nonneg hb.2.2.2.2.1 (by omega);have h1:1073741824 / (c.dist / 1000+1)<=1073741824:=Int.ediv_le_self _ (by omega);omega
def dK (l:List Cd):Int:=(l.map kL).sum
theorem oD:∀ {l:List Cd},(∀ c∈l,BI c=true)->(l.length:Int)<=dK l/\dK l<=l.length*1073741824/\∀ c∈l,kL c<=dK l
 | [],_=>⟨by simp[dK],by simp[dK],by simp⟩
 | c::r,h=>by
  obtain⟨h1,h2,h3⟩:=oD (l:=r) (fun x hx=>h x (List.mem_cons_of_mem _ hx));obtain⟨h4,h5⟩:=pX (h c (mem_cons_self ..));have e:dK (c::r)=kL c+dK r:=by simp[dK]
  rw[e];refine⟨by simp only[length_cons];omega,by simp only[length_cons];push_cast;rw[Int.add_mul];omega,fun x hx=>?_⟩;rcases List.mem_cons.1 hx with rfl|hx
  ·omega
  ·have:=h3 x hx;omega
def WtI (w:World) (l:List Cd) (vo vi:Value) (wr:World):Prop:=
 ∃ k:Nat,k<=l.length/\vi=.int .i64 k/\Own fB 3 1 w.heap.size wr vo ((l.take k).map kL)/\Only [] w wr
theorem JH {w:World} {p:Option Addr} {n cap:Nat} {l:List Cd} (hv:aS iU 5 w p n cap l) (hg:Gd l) :
  Calls Tryz.prog 271 #[.slice p n cap] w fun e w'=>PeR w (l.map kL) e w'/\Only [] w w':=by
 have hln:=hv.len;subst hln;have hlb:=hg.len;have hck:=sZ hv (by omega);rw[mH.2 hg] at hck;have HCK:=hid hck;have HV:=hid hv;have HG:=hid hg;clear hv hg hck;go_enter Tryz.func271,Tryz.ntmps271
 go_wp2_with fail
 refine HCK.out.mono ?_;rintro e w1 ⟨rfl,ho1⟩;have O1:=hid ho1;clear ho1 HCK;go_wp2_with fail
 go_loopw [3,11] (fun vo vi wr=>WtI w l vo vi wr) (fun _ vi _=>l.length-(intOf vi).toNat)
 case atStart=>exact⟨0,Nat.zero_le _,rfl,dZ _ _,O1.out⟩
 case round =>
  obtain⟨k,hk,rfl,hown,ho⟩:=hrel;have OW:=hid hown;have OO:=hid ho;clear hown ho;by_cases hlt:k<l.length
  ·obtain⟨bk,off,hp,hb,c0,c1,c2,c3,c4⟩:=HV.out.cd OO.out hlt
   subst hp;have hle:=OO.out.size;have hb':bk<wr.heap.size:=by omega
   have hok:=HG.out.ok _ (getElem_mem hlt);have hbd:=iG hok;have hwb:=pX hok
   have HSN:Hid ((l.take (k+1)).map kL=(l.take k).map kL ++ [kL l[k]]):=hid (by
    rw[List.take_succ_eq_append_getElem hlt,List.map_append];rfl)
   have hfl2:((l.take k).map kL).length<=k:=by rw[length_map,length_take];omega
   generalize (l.take k).map kL=acc at OW HSN hfl2;have hwt:kL l[k]=max 1 (1073741824 / (l[k].dist / 1000+1)):=rfl;generalize kL l[k]=wt at HSN hwb hwt;generalize l[k]=x at c0 c1 c2 c3 c4 hbd hwt;obtain⟨id,of,di,ji,st⟩:=x;dsimp only at c0 c1 c2 c3 c4 hbd hwt;obtain⟨_,_,_,_,b1,b2,_⟩:=hbd;clear hok;obtain⟨x1,hx1⟩:∃ x1,di / 1000=x1:=⟨_,rfl⟩;have hx1b:0<=x1/\x1<=9007199254740992:=by omega
   obtain⟨y1,hy1⟩:∃ y1,1073741824 / (x1+1)=y1:=⟨_,rfl⟩;rw[hx1,hy1] at hwt;obtain⟨x1n,x1p⟩:=hx1b;have hd0:((x1+1:Int) == 0)=false:=by rw[beq_eq_false_iff_ne];omega
   obtain⟨pp,cap',rfl,_⟩:=Own.eH (enc:=fB) (s:=1) dI OW.out;go_upto_region 7 with (fail)
   refine aF (G:=fun w0=>Code.wp _ _ _ _ w0) ?_;intro w2 hb1 ho1 hs1;have B2:=hid hb1;have O2:=hid (OO.out.aB ho1);have W2:=hid (OW.out.kept ho1);clear hb1 ho1 hs1 c0 c1 c2 c3 c4 OO OW;have k2:=aA B2.out 2;have lk:=aD B2.out;have HWT:=hid hwt;clear hwt;go_wp2_with (at_builtin;refine bD ?_)
   refine aF (G:=fun w0=>Stop (wpList _ _ _ _ _ w0)) ?_;intro w5 hb5 ho5 hs5;have B5:=hid hb5;have O5:=hid (O2.out.aB ho5);have R5:=hid (W2.out.kept ho5);clear hb5 ho5 hs5 k2 lk;refine cK ?_;refine bK (w0:=w) rfl _ _ 42 rfl 3 (.int .i64 0) 1 8 Tryz.underlying42 (by kernel_rfl) rfl (by decide) fB dI nO acc _ rfl R5.out w2.heap.size wt rfl (fun j u hj=>?_) (by simp[maxLen];omega) (by omega) O5.out ?_
   ·rw[aA B5.out,<-hj,HWT.out];simp[fB]
   intro v6 w6 hown6 ho6 _;have W6:=hid hown6;have O6:=hid ho6;clear hown6 ho6;go_wp2;go_roundw
   case rel=>exact⟨k+1,by omega,by go_num,by rw[HSN.out];exact W6.out,O6.out⟩
   case measure=>first|(simp[intOf];done)|(simp[intOf];omega)
  ·have HC:Hid ((l.take k).map kL=l.map kL):=hid (by rw[take_of_length_le (by omega)])
   rw[HC.out] at OW;go_wp2;go_ret
   exact⟨⟨_,rfl,OW.out⟩,OO.out⟩
def RZ (val:Cd->Int) (tot:Int) (c:Cd):Int:=kL c*val c / tot
def ws (val:Cd->Int) (tot:Int) (l:List Cd):Int:=(l.map (RZ val tot)).sum
def lT (first:Int) (c:Cd):Int:=c.off-first
def xU (mean:Int) (c:Cd):Int:=(xC c.off mean:Int)
def gU (l:List Cd):Int:=(l.headD default).off+ws (lT (l.headD default).off) (dK l) l
def wK (l:List Cd):Int:=(SX (ws (xU (gU l)) (dK l) l).toNat:Int)
theorem NS (val:Cd->Int) (tot:Int) (l:List Cd) (c:Cd):ws val tot (l ++ [c])=ws val tot l+RZ val tot c:=by simp[ws]
theorem IY (l:List Cd) (c:Cd):dK (l ++ [c])=dK l+kL c:=by simp[dK]
theorem ws_bd {val:Cd->Int} {tot B:Int} (ht:0<tot):∀ {l:List Cd},(∀ c∈l,BI c=true/\ -B<=val c/\val c<=B)->tot*ws val tot l<=B*dK l/\ -(B*dK l)-l.length*tot<=tot*ws val tot l
 | [],_=>by simp[ws,dK]
 | c::r,h=>by
  have hr:=ws_bd ht (l:=r) (fun x hx=>h x (List.mem_cons_of_mem _ hx));obtain⟨h1,h2,h3⟩:=h c (mem_cons_self ..);have hw:=pX h1;have e:ws val tot (c::r)=RZ val tot c+ws val tot r:=by simp[ws]
  have e2:dK (c::r)=kL c+dK r:=by simp[dK]
  have a1:tot*(kL c*val c / tot)<=kL c*val c:=Int.mul_ediv_self_le (by omega);have a2:kL c*val c<tot*(kL c*val c / tot)+tot:=Int.lt_mul_ediv_self_add ht;have a3:kL c*val c<=kL c*B:=Int.mul_le_mul_of_nonneg_left h3 (by omega);have a4:kL c* -B<=kL c*val c:=Int.mul_le_mul_of_nonneg_left h2 (by omega);rw[e,e2,Int.mul_add,Int.mul_add,length_cons];unfold RZ;have e3:((r.length+1:Nat):Int)*tot=r.length*tot+tot:=by push_cast;rw[Int.add_mul,Int.one_mul]
  rw[e3];rw[Int.mul_neg] at a4;rw[Int.mul_comm (kL c) B] at a3 a4;omega
theorem UW {l:List Cd} (h:∀ c∈l,BI c=true) (k:Nat):dK (l.take k)<=dK l/\0<=dK (l.take k):=by
 have e:dK l=dK (l.take k)+dK (l.drop k):=by
  have:dK (l.take k ++ l.drop k)=dK (l.take k)+dK (l.drop k):=by simp only[dK,List.map_append,List.sum_append]
  rwa [List.take_append_drop] at this
 have h1:=(oD (l:=l.drop k) (fun c hc=>h c (List.mem_of_mem_drop hc))).1;have h2:=(oD (l:=l.take k) (fun c hc=>h c (mem_of_mem_take hc))).1;omega
theorem yS {val:Cd->Int} {B:Int} {l:List Cd} (hB:0<=B) (h0:0<l.length) (h:∀ c∈l,BI c=true/\ -B<=val c/\val c<=B) (k:Nat): -(B+l.length)<=ws val (dK l) (l.take k)/\ws val (dK l) (l.take k)<=B:=by
 have hk:=fun c hc=>(h c hc).1;have ht:=(oD hk).1;have hp:0<dK l:=by omega
 obtain⟨a,b⟩:=ws_bd (val:=val) (tot:=dK l) (B:=B) hp (l:=l.take k) (fun c hc=>h c (mem_of_mem_take hc));obtain⟨c,d⟩:=UW hk k;have e:=Int.mul_le_mul_of_nonneg_left c hB;have hl:((l.take k).length:Int)<=l.length:=by rw[length_take];omega
 have f:=Int.mul_le_mul_of_nonneg_right hl (Int.le_of_lt hp);constructor
 ·refine Int.le_of_mul_le_mul_left (a:=dK l) ?_ hp
  rw[Int.mul_neg,Int.mul_add,Int.mul_comm (dK l) B,Int.mul_comm (dK l) (l.length:Int)];omega
 ·refine Int.le_of_mul_le_mul_left (a:=dK l) ?_ hp
  rw[Int.mul_comm (dK l) B];omega
theorem aS.i64 {w w':World} {p:Option Addr} {n cap:Nat} {l:List Int} (hv:aS fB 1 w p n cap l) (ho:Only [] w w') {k:Nat} (hlt:k<l.length):∃ b off,p=some ⟨b,off,none⟩/\b<w.heap.size /\
  w'.cell? ⟨b,off+k,none⟩=some (.int .i64 l[k]):=by
 obtain⟨b,off,hp,hb,hc⟩:=hv.cell k l[k] (List.getElem?_eq_getElem hlt);refine⟨b,off,hp,hb,?_⟩;rw[ho.cell hb (by simp)];have:=hc 0 _ rfl;simpa using this
theorem pMean1 {w:World} {b:Nat} {x:Int} (hb:w.heap[b]? = some (.cells #[.int .i64 x] 3 (0,0))) (c:Cd) (hc:BI c=true) (h0: -4503599627370496<=x) (h1:x<=4503599627370496)  :
  Calls Tryz.prog 244 #[xL c,.pointer (some ⟨b,0,none⟩)] w fun e w'=>e=.returned (.int .i64 (lT x c))/\Only [] w w':=by
 have hbd:=iG hc;obtain⟨id,of,di,ji,st⟩:=c;unfold xL;dsimp only at hbd |-;obtain⟨_,_,b1,b2,_⟩:=hbd;have r1:IntKind.i64.wrap (of-x)=of-x:=by rw[wrap_i64];omega
 unfold lT;dsimp only;clear hc h0 h1 b1 b2;have m:=mY hb;have k:=m.out.k;clear hb;go_enter Tryz.func244,Tryz.ntmps244
 go_wp2_with (first|((with_reducible refine wU ?_);clear k m;intro w m k)|((with_reducible refine lF (fun w _=>⟨rfl,?_⟩));simp[results,Tryz.results244,go_sem]))
theorem SF (c:Cd) (hc:BI c=true) (x:Int) (h0: -112589990684262400<=x) (h1:x<=112589990684262400) (w:World) :
  Calls Tryz.prog 275 #[xL c,.int .i64 x] w fun e w'=>e=.returned (.int .i64 (c.off-x).natAbs)/\Only [] w w':=by
 have hbd:=iG hc;obtain⟨id,of,di,ji,st⟩:=c;unfold xL;dsimp only at hbd |-;obtain⟨_,_,b1,b2,_⟩:=hbd;have r1:IntKind.i64.wrap (of-x)=of-x:=by rw[wrap_i64];omega
 have HA:=hid (fun w=>jD (fabs (of-x) w (by omega) (by omega)));clear hc h0 h1 b1 b2;have m:=dD w [];have k:=m.out.k;go_enter Tryz.func275,Tryz.ntmps275
 go_wp2_with (first|((with_reducible first|refine cM (HA.out _) ?_|refine wU ?_);clear k m;intro w m k)|((with_reducible refine lF (fun w _=>⟨rfl,?_⟩));simp[results,Tryz.results275,go_sem]))
theorem pJit1 {w:World} {b:Nat} {x:Int} (hb:w.heap[b]? = some (.cells #[.int .i64 x] 3 (0,0))) (c:Cd) (hc:BI c=true) (h0: -112589990684262400<=x) (h1:x<=112589990684262400)  :
  Calls Tryz.prog 274 #[xL c,.pointer (some ⟨b,0,none⟩)] w fun e w'=>e=.returned (.int .i64 (xU x c))/\Only [] w w':=by
 have HD:=hid (SF c hc x h0 h1);have hm:=MJ c.off x;have hq:=vW c.off x;have r1:IntKind.i64.wrap (xC c.off x:Int)=(xC c.off x:Int):=by rw[wrap_i64];omega
 unfold xU;generalize xC c.off x=q at hm r1 |-;generalize (c.off-x).natAbs=d at HD hm;obtain⟨id,of,di,ji,st⟩:=c;unfold xL at HD |-;dsimp only at HD |-;clear hc h0 h1 hq;have m:=mY hb;have k:=m.out.k;clear hb;go_enter Tryz.func274,Tryz.ntmps274
 go_wp2_with (first|((with_reducible first|refine cM (HD.out _) ?_|refine wU ?_);clear k m;intro w m k)|((with_reducible refine lF (fun w _=>⟨rfl,?_⟩));simp[results,Tryz.results274,go_sem]))
def W1I (w:World) (l:List Cd) (vt vi:Value) (wr:World):Prop:=
 ∃ k:Nat,k<=l.length/\vi=.int .i64 k/\vt=.int .i64 (dK (l.take k))/\Only [] w wr
def W2I (w:World) (l:List Cd) (val:Cd->Int) (tot:Int) (vs vi:Value) (wr:World):Prop:=
 ∃ k:Nat,k<=l.length/\vi=.int .i64 k/\vs=.int .i64 (ws val tot (l.take k))/\Only [] w wr
theorem PZ {c:Cd} {x:Int} (h:BI c=true) (h0: -4503599627370496<=x) (h1:x<=4503599627370496): -9007199254740992<=lT x c/\lT x c<=9007199254740992:=by
 have:=iG h;unfold lT;omega
theorem U0 {c:Cd} {x:Int} (_:BI c=true) (_: -112589990684262400<=x) (_:x<=112589990684262400): -1152921504606846976<=xU x c/\xU x c<=1152921504606846976:=by
 have:=vW c.off x;unfold xU;omega
theorem pWtMean {w:World} {p:Option Addr} {n cap b:Nat} {l:List Cd} {x:Int} (hv:aS iU 5 w p n cap l) (hg:Gd l) (hb:w.heap[b]? = some (.cells #[.int .i64 x] 3 (0,0))) (h00:0<l.length) (h0: -4503599627370496<=x) (h1:x<=4503599627370496) :
  Calls Tryz.prog 243 #[.slice p n cap,.func (.func 244) #[] #[.pointer (some ⟨b,0,none⟩)]] w fun e w'=>e=.returned (.int .i64 (ws (lT x) (dK l) l))/\Only [] w w':=by
 have hln:=hv.len;subst hln;have hlb:=hg.len;have HW:=hid (JH hv hg);have HVB:=hid (fun c (h:BI c=true)=>PZ (x:=x) h h0 h1);have HWB:=hid (yS (val:=lT x) (B:=9007199254740992) (by decide) h00 (fun c hc=>⟨hg.ok c hc,HVB.out c (hg.ok c hc)⟩));clear h00;have HV:=hid hv;have HG:=hid hg;have BB:=hid hb;have HF:=hid (And.intro h0 h1);clear hv hg hb h0 h1;go_enter Tryz.func243,Tryz.ntmps243
 go_wp2_with fail
 refine HW.out.mono ?_;rintro e w1 ⟨⟨v1,rfl,hown⟩,ho1⟩;have O1:=hid ho1;obtain⟨pw,cw,rfl,hvw⟩:=Own.eH (enc:=fB) (s:=1) dI hown;rw[length_map] at hvw |-;have VW:=hid hvw;clear ho1 hown HW hvw;go_wp2_with fail
 go_loopw [6,18] (fun vt vi wr=>W1I w1 l vt vi wr) (fun _ vi _=>l.length-(intOf vi).toNat)
 case atStart=>exact⟨0,Nat.zero_le _,rfl,rfl,Only.refl _ _⟩
 case round =>
  obtain⟨k,hk,rfl,rfl,ho⟩:=hrel;have OO:=hid ho;clear ho;by_cases hlt:k<l.length
  ·obtain⟨bk,off,hp,hb,c0⟩:=VW.out.i64 (k:=k) OO.out (by rw[length_map];exact hlt)
   subst hp;have hle:=OO.out.size;have hb':bk<wr.heap.size:=by omega
   rw[List.getElem_map] at c0;have hwb:=pX (HG.out.ok _ (getElem_mem hlt))
   have HSN:Hid (dK (l.take (k+1))=dK (l.take k)+kL l[k]):=hid (by
    rw[List.take_succ_eq_append_getElem hlt,IY])
   have htb:=oD (l:=l.take k) (fun c hc=>HG.out.ok c (mem_of_mem_take hc));rw[length_take,Nat.min_eq_left hk] at htb;obtain⟨tb1,tb2,_⟩:=htb;generalize dK (l.take k)=acc at HSN tb1 tb2 |-;generalize kL l[k]=wt at HSN c0 hwb;have tb3:acc<=12884901888:=by omega
   clear tb2;go_wp2_with fail
   go_roundw
   case rel=>exact⟨k+1,by omega,by go_num,by rw[HSN.out],OO.out⟩
   case measure=>first|(simp[intOf];done)|(simp[intOf];omega)
  ·have HC:Hid (l.take k=l):=hid (take_of_length_le (by omega))
   have htb:=oD HG.out.ok;rw[HC.out];obtain⟨tot,htot⟩:∃ tot,dK l=tot:=⟨_,rfl⟩;rw[htot] at htb |-;have HT:=hid htb;have HTO:=hid htot;have ht2:tot<17179869184:=by have:=htb.2.1;omega
   have VX:=hid (VW.out.kept OO.out);have HVX:=hid (HV.out.kept (O1.out.aB OO.out));have BX:=hid ((O1.out.aB OO.out).got BB.out (by simp));have OX:=hid (O1.out.aB OO.out);clear htb htot HC VW HV BB O1 OO;obtain⟨wo,hwo⟩:∃ wo:World,wo=wr:=⟨_,rfl⟩;subst hwo;go_wp2_with fail
   clear hk hlt;go_loopw [9,28] (fun vs vi wr=>W2I wo l (lT x) tot vs vi wr) (fun _ vi _=>l.length-(intOf vi).toNat)
   case atStart=>exact⟨0,Nat.zero_le _,rfl,rfl,Only.refl _ _⟩
   case round =>
    obtain⟨k,hk,rfl,rfl,ho⟩:=hrel;have OO:=hid ho;clear ho;by_cases hlt:k<l.length
    ·obtain⟨bw,ow,hp,hb,d0⟩:=VX.out.i64 (k:=k) OO.out (by rw[length_map];exact hlt)
     subst hp;obtain⟨bk,off,hp,hb2,c0,c1,c2,c3,c4⟩:=HVX.out.cd OO.out hlt;subst hp;have hle:=OO.out.size;have hb':bw<wr.heap.size:=by omega
     have hb2':bk<wr.heap.size:=by omega
     rw[List.getElem_map] at d0;have hxo:=HG.out.ok _ (getElem_mem hlt);have hwb:=pX hxo;have hwt:kL l[k]<=tot:=HT.out.2.2 _ (getElem_mem hlt);have hxb:=iG hxo
     have HSN:Hid (ws (lT x) tot (l.take (k+1))=ws (lT x) tot (l.take k)+kL l[k]*lT x l[k] / tot):=hid (by
      rw[List.take_succ_eq_append_getElem hlt,NS];rfl)
     have hpb:=HWB.out k;have hpb2:=HWB.out (k+1);have hvb:=HVB.out l[k] hxo;rw[HTO.out] at hpb hpb2;rw[HSN.out] at hpb2;have hprt: -9223372036854775808<=kL l[k]*lT x l[k] / tot/\kL l[k]*lT x l[k] / tot<=9223372036854775807:=by omega
     have hpr1:=fU hprt.1 hprt.2;have HM1:=hid (fun w' (ho:Only [] wo w')=>pMean1 (ho.got BX.out (by simp)) l[k] hxo HF.out.1 HF.out.2);have HMD:=hid (fun w'=>jU (mF (kL l[k]) (lT x l[k]) tot w' (by omega) (by omega) (by omega) (by omega) (by omega) (by omega)));rw[hpr1] at HMD;generalize ws (lT x) tot (l.take k)=acc at HSN hpb hpb2 |-;generalize kL l[k]*lT x l[k] / tot=pr at HSN hprt HMD hpb2;have r1:IntKind.i64.wrap (acc+pr)=acc+pr:=by rw[wrap_i64];omega
     clear hpr1;generalize kL l[k]=wt at d0 HMD;generalize l[k]=x at c0 c1 c2 c3 c4 HM1 HMD;obtain⟨id,of,di,ji,st⟩:=x;unfold xL at HM1;dsimp only at c0 c1 c2 c3 c4 HM1 HMD;generalize lT x ⟨id,of,di,ji,st⟩=df at HM1 HMD;generalize MO pr=okb at HMD;clear hpb hpb2 hvb hprt hxo hwb hwt hxb;go_wp2_with fail
     refine (HM1.out wr OO.out).mono ?_;rintro e w3 ⟨rfl,ho3⟩;have O3:=hid (OO.out.aB ho3);clear ho3 HM1 OO c0 c1 c2 c3 c4 d0 hb' hb2';go_wp2_with fail
     refine (HMD.out w3).mono ?_;rintro e w4 ⟨rfl,ho4⟩;have O4:=hid (O3.out.aB ho4);clear ho4;clear HMD O3;go_wp2;go_roundw
     case rel=>exact⟨k+1,by omega,by go_num,by rw[HSN.out],O4.out⟩
     case measure=>first|(simp[intOf];done)|(simp[intOf];omega)
    ·have HC:Hid (l.take k=l):=hid (take_of_length_le (by omega))
     rw[HC.out];go_wp2;go_ret
     exact⟨by rw[HTO.out];rfl,OX.out.aB OO.out⟩
theorem pWtJit {w:World} {p:Option Addr} {n cap b:Nat} {l:List Cd} {x:Int} (hv:aS iU 5 w p n cap l) (hg:Gd l) (hb:w.heap[b]? = some (.cells #[.int .i64 x] 3 (0,0))) (h00:0<l.length) (h0: -112589990684262400<=x) (h1:x<=112589990684262400) :
  Calls Tryz.prog 243 #[.slice p n cap,.func (.func 274) #[] #[.pointer (some ⟨b,0,none⟩)]] w fun e w'=>e=.returned (.int .i64 (ws (xU x) (dK l) l))/\Only [] w w':=by
 have hln:=hv.len;subst hln;have hlb:=hg.len;have HW:=hid (JH hv hg);have HVB:=hid (fun c (h:BI c=true)=>U0 (x:=x) h h0 h1);have HWB:=hid (yS (val:=xU x) (B:=1152921504606846976) (by decide) h00 (fun c hc=>⟨hg.ok c hc,HVB.out c (hg.ok c hc)⟩));clear h00;have HV:=hid hv;have HG:=hid hg;have BB:=hid hb;have HF:=hid (And.intro h0 h1);clear hv hg hb h0 h1;go_enter Tryz.func243,Tryz.ntmps243
 go_wp2_with fail
 refine HW.out.mono ?_;rintro e w1 ⟨⟨v1,rfl,hown⟩,ho1⟩;have O1:=hid ho1;obtain⟨pw,cw,rfl,hvw⟩:=Own.eH (enc:=fB) (s:=1) dI hown;rw[length_map] at hvw |-;have VW:=hid hvw;clear ho1 hown HW hvw;go_wp2_with fail
 go_loopw [6,18] (fun vt vi wr=>W1I w1 l vt vi wr) (fun _ vi _=>l.length-(intOf vi).toNat)
 case atStart=>exact⟨0,Nat.zero_le _,rfl,rfl,Only.refl _ _⟩
 case round =>
  obtain⟨k,hk,rfl,rfl,ho⟩:=hrel;have OO:=hid ho;clear ho;by_cases hlt:k<l.length
  ·obtain⟨bk,off,hp,hb,c0⟩:=VW.out.i64 (k:=k) OO.out (by rw[length_map];exact hlt)
   subst hp;have hle:=OO.out.size;have hb':bk<wr.heap.size:=by omega
   rw[List.getElem_map] at c0;have hwb:=pX (HG.out.ok _ (getElem_mem hlt))
   have HSN:Hid (dK (l.take (k+1))=dK (l.take k)+kL l[k]):=hid (by
    rw[List.take_succ_eq_append_getElem hlt,IY])
   have htb:=oD (l:=l.take k) (fun c hc=>HG.out.ok c (mem_of_mem_take hc));rw[length_take,Nat.min_eq_left hk] at htb;obtain⟨tb1,tb2,_⟩:=htb;generalize dK (l.take k)=acc at HSN tb1 tb2 |-;generalize kL l[k]=wt at HSN c0 hwb;have tb3:acc<=12884901888:=by omega
   clear tb2;go_wp2_with fail
   go_roundw
   case rel=>exact⟨k+1,by omega,by go_num,by rw[HSN.out],OO.out⟩
   case measure=>first|(simp[intOf];done)|(simp[intOf];omega)
  ·have HC:Hid (l.take k=l):=hid (take_of_length_le (by omega))
   have htb:=oD HG.out.ok;rw[HC.out];obtain⟨tot,htot⟩:∃ tot,dK l=tot:=⟨_,rfl⟩;rw[htot] at htb |-;have HT:=hid htb;have HTO:=hid htot;have ht2:tot<17179869184:=by have:=htb.2.1;omega
   have VX:=hid (VW.out.kept OO.out);have HVX:=hid (HV.out.kept (O1.out.aB OO.out));have BX:=hid ((O1.out.aB OO.out).got BB.out (by simp));have OX:=hid (O1.out.aB OO.out);clear htb htot HC VW HV BB O1 OO;obtain⟨wo,hwo⟩:∃ wo:World,wo=wr:=⟨_,rfl⟩;subst hwo;go_wp2_with fail
   clear hk hlt;go_loopw [9,28] (fun vs vi wr=>W2I wo l (xU x) tot vs vi wr) (fun _ vi _=>l.length-(intOf vi).toNat)
   case atStart=>exact⟨0,Nat.zero_le _,rfl,rfl,Only.refl _ _⟩
   case round =>
    obtain⟨k,hk,rfl,rfl,ho⟩:=hrel;have OO:=hid ho;clear ho;by_cases hlt:k<l.length
    ·obtain⟨bw,ow,hp,hb,d0⟩:=VX.out.i64 (k:=k) OO.out (by rw[length_map];exact hlt)
     subst hp;obtain⟨bk,off,hp,hb2,c0,c1,c2,c3,c4⟩:=HVX.out.cd OO.out hlt;subst hp;have hle:=OO.out.size;have hb':bw<wr.heap.size:=by omega
     have hb2':bk<wr.heap.size:=by omega
     rw[List.getElem_map] at d0;have hxo:=HG.out.ok _ (getElem_mem hlt);have hwb:=pX hxo;have hwt:kL l[k]<=tot:=HT.out.2.2 _ (getElem_mem hlt);have hxb:=iG hxo
     have HSN:Hid (ws (xU x) tot (l.take (k+1))=ws (xU x) tot (l.take k)+kL l[k]*xU x l[k] / tot):=hid (by
      rw[List.take_succ_eq_append_getElem hlt,NS];rfl)
     have hpb:=HWB.out k;have hpb2:=HWB.out (k+1);have hvb:=HVB.out l[k] hxo;rw[HTO.out] at hpb hpb2;rw[HSN.out] at hpb2;have hprt: -9223372036854775808<=kL l[k]*xU x l[k] / tot/\kL l[k]*xU x l[k] / tot<=9223372036854775807:=by omega
     have hpr1:=fU hprt.1 hprt.2;have HM1:=hid (fun w' (ho:Only [] wo w')=>pJit1 (ho.got BX.out (by simp)) l[k] hxo HF.out.1 HF.out.2);have HMD:=hid (fun w'=>jU (mF (kL l[k]) (xU x l[k]) tot w' (by omega) (by omega) (by omega) (by omega) (by omega) (by omega)));rw[hpr1] at HMD;generalize ws (xU x) tot (l.take k)=acc at HSN hpb hpb2 |-;generalize kL l[k]*xU x l[k] / tot=pr at HSN hprt HMD hpb2;have r1:IntKind.i64.wrap (acc+pr)=acc+pr:=by rw[wrap_i64];omega
     clear hpr1;generalize kL l[k]=wt at d0 HMD;generalize l[k]=x at c0 c1 c2 c3 c4 HM1 HMD;obtain⟨id,of,di,ji,st⟩:=x;unfold xL at HM1;dsimp only at c0 c1 c2 c3 c4 HM1 HMD;generalize xU x ⟨id,of,di,ji,st⟩=df at HM1 HMD;generalize MO pr=okb at HMD;clear hpb hpb2 hvb hprt hxo hwb hwt hxb;go_wp2_with fail
     refine (HM1.out wr OO.out).mono ?_;rintro e w3 ⟨rfl,ho3⟩;have O3:=hid (OO.out.aB ho3);clear ho3 HM1 OO c0 c1 c2 c3 c4 d0 hb' hb2';go_wp2_with fail
     refine (HMD.out w3).mono ?_;rintro e w4 ⟨rfl,ho4⟩;have O4:=hid (O3.out.aB ho4);clear ho4;clear HMD O3;go_wp2;go_roundw
     case rel=>exact⟨k+1,by omega,by go_num,by rw[HSN.out],O4.out⟩
     case measure=>first|(simp[intOf];done)|(simp[intOf];omega)
    ·have HC:Hid (l.take k=l):=hid (take_of_length_le (by omega))
     rw[HC.out];go_wp2;go_ret
     exact⟨by rw[HTO.out];rfl,OX.out.aB OO.out⟩
theorem zD {l:List Cd} (hg:Gd l) (h0:0<l.length): -112589990684262400<=gU l/\gU l<=112589990684262400/\ -4503599627370496<=(l.headD default).off/\(l.headD default).off<=4503599627370496/\ -9007199254740992-12<=ws (lT (l.headD default).off) (dK l) l/\ws (lT (l.headD default).off) (dK l) l<=9007199254740992:=by
 have hc:=iG (hg.ok _ (getElem_mem h0));have he:l.headD default=l[0]:=by cases l with|nil=>simp at h0|cons=>rfl
 have h:=yS (val:=lT (l.headD default).off) (B:=9007199254740992) (by decide) h0 (fun c hc'=>⟨hg.ok c hc',PZ (hg.ok c hc') (by rw[he];omega) (by rw[he];omega)⟩) l.length;rw[take_length] at h;have hl:=hg.len;unfold gU;rw[he] at h |-;omega
theorem pMean {w:World} {p:Option Addr} {n cap:Nat} {l:List Cd} (hv:aS iU 5 w p n cap l) (hg:Gd l) (h0:0<l.length)  :
  Calls Tryz.prog 225 #[.slice p n cap] w fun e w'=>e=.returned (.tuple #[.int .i64 (gU l),.int .i64 0])/\Only [] w w':=by
 have hln:=hv.len;subst hln;have hlb:=hg.len;obtain⟨hm1,hm2,f0,f1,hw1,hw2⟩:=zD hg h0;have HCK:=hid (fun w' (o:Only [] w w')=>(by have h:=sZ (hv.kept o) (by omega);rwa [mH.2 hg] at h:Calls Tryz.prog 235 #[.slice p l.length cap] w' fun e w2=>e=.returned (.int .i64 0)/\Only [] w' w2));have he:l.headD default=l[0]:=by cases l with|nil=>simp at h0|cons=>rfl
 have HW:=hid (fun w' b (o:Only [] w w') hb=>pWtMean (w:=w') (b:=b) (x:=(l.headD default).off) (hv.kept o) hg hb h0 f0 f1);obtain⟨b,off,rfl,hb,HC⟩:=hv.at h0;have HX:=hid (HC 0 h0);rw[Nat.zero_mul,Nat.add_zero,<-he] at HX;clear he;unfold gU at hm1 hm2 |-;generalize l.headD default=z at HW HX hm1 hm2 hw1 hw2 |-;obtain⟨zi,x,zd,zj,zs⟩:=z;dsimp only at HW HX hm1 hm2 hw1 hw2 |-;generalize ws (lT x) (dK l) l=s at HW hm1 hm2 hw1 hw2 |-;have r1:IntKind.i64.wrap (x+s)=x+s:=by rw[wrap_i64];omega
 have hne:((l.length:Int) == 0)=false:=by rw[beq_eq_false_iff_ne];omega
 have hl0:(0:Int)<(l.length:Int):=by omega
 clear hv hg HC hm1 hm2 f0 f1 hw1 hw2;obtain⟨wo,hwo⟩:∃ wo:World,wo=w:=⟨_,rfl⟩;subst hwo;have m:=dD wo [];have k:=m.out.k;have c:=HX.out wo (Only.refl [] wo);go_enter Tryz.func225,Tryz.ntmps225
 go_wp2_with (first|((with_reducible first|refine cU ?_|refine cM (HCK.out _ gO) ?_|refine wU ?_);clear k m c;intro w m k;have c:=HX.out w m.out.only)|((with_reducible refine rG (id:=7) [0,1,2,3,4,5,6] [] (by kernel_rfl) (by kernel_rfl) ?_);simp only[pick,map_cons,map_nil,List.getD_cons_succ,List.getD_cons_zero];(repeat' (first|go_big_quiet_step (with_reducible first|exact gX (HW.out _ _ S9 gP))|(refine wpQuiet_step (fun K hK=>?_);go_simp;(first|(refine hK _ ?_;clear hK K)|(split<;>(refine hK _ ?_;clear hK K))))));all_goals (refine wpQuiet_nil ?_;clear k m c;intro w m k;have c:=HX.out w m.out.only))|((with_reducible refine lF (fun w _=>⟨rfl,?_⟩));simp[results,Tryz.results225,go_sem]))
theorem YO {l:List Cd} (hg:Gd l) (h0:0<l.length):0<=wK l/\wK l<=4294967296/\ -1152921504606846976-12<=ws (xU (gU l)) (dK l) l/\ws (xU (gU l)) (dK l) l<=1152921504606846976:=by
 obtain⟨m1,m2,_⟩:=zD hg h0;have h:=yS (val:=xU (gU l)) (B:=1152921504606846976) (by decide) h0 (fun c hc'=>⟨hg.ok c hc',U0 (hg.ok c hc') m1 m2⟩) l.length;rw[take_length] at h;have hl:=hg.len;have hi:=isq_bd (ws (xU (gU l)) (dK l) l).toNat (by omega);unfold wK;omega
theorem ws_nn {val:Cd->Int} {tot:Int} (ht:0<=tot):∀ {l:List Cd},(∀ c∈l,BI c=true/\0<=val c)->0<=ws val tot l
 | [],_=>by simp[ws]
 | c::r,h=>by
  have hr:=ws_nn ht (l:=r) (fun x hx=>h x (List.mem_cons_of_mem _ hx));obtain⟨h1,h2⟩:=h c (mem_cons_self ..);have hw:=pX h1;have e:ws val tot (c::r)=RZ val tot c+ws val tot r:=by simp[ws]
  have:=Int.ediv_nonneg (Int.mul_nonneg (show 0<=kL c by omega) h2) ht;rw[e];unfold RZ;omega
theorem pJitter {w:World} {p:Option Addr} {n cap:Nat} {l:List Cd} (hv:aS iU 5 w p n cap l) (hg:Gd l) (h0:0<l.length)  :
  Calls Tryz.prog 246 #[.slice p n cap] w fun e w'=>e=.returned (.int .i64 (wK l))/\Only [] w w':=by
 have hln:=hv.len;subst hln;have hlb:=hg.len;obtain⟨m1,m2,_⟩:=zD hg h0;obtain⟨_,_,hj3,hj4⟩:=YO hg h0;have hnn:=ws_nn (val:=xU (gU l)) (tot:=dK l) (by have:=(oD hg.ok).1;omega) (l:=l) (fun c hc=>⟨hg.ok c hc,by unfold xU;omega⟩);have HM:=hid (fun w' (o:Only [] w w')=>pMean (hv.kept o) hg h0);have HW:=hid (fun w' b (o:Only [] w w') hb=>pWtJit (w:=w') (b:=b) (x:=gU l) (hv.kept o) hg hb h0 m1 m2);unfold wK;generalize gU l=x at HM HW hnn hj3 hj4 |-;generalize ws (xU x) (dK l) l=s at HW hnn hj3 hj4 |-;obtain⟨q,rfl⟩:∃ q:Nat,s=(q:Int):=⟨s.toNat,by omega⟩;rw[Int.toNat_natCast];have HS:=hid (fun w=>jD (YZ q w (by omega)));clear hv hg m1 m2 hnn hj3 hj4;obtain⟨wo,hwo⟩:∃ wo:World,wo=w:=⟨_,rfl⟩;subst hwo;have m:=dD wo [];have k:=m.out.k;go_enter Tryz.func246,Tryz.ntmps246
 go_wp2_with (first|((with_reducible first|refine cU ?_|refine cM (HM.out _ gO) ?_|refine cM (HW.out _ _ gO gB) ?_|refine cM (HS.out _) ?_|refine wU ?_);clear k m;intro w m k)|((with_reducible refine lF (fun w _=>⟨rfl,?_⟩));simp[results,Tryz.results246,go_sem]))
end
end Go.Proofs.YthbgcpfklmlnjaaGreat
