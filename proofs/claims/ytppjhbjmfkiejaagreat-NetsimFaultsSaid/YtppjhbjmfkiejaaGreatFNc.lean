/- Nc Nd -/
import Derived.Test.YtppjhbjmfkiejaaGreatFF1
import Derived.Test.YtppjhbjmfkiejaaGreatFSb
namespace Go.Proofs.YtppjhbjmfkiejaaGreat
open List (getD_eq_getElem?_getD getElem?_eq_getElem)
section
open Go.Lib (hid)
set_option maxRecDepth 100000
set_option maxHeartbeats 8000000
open Go.RowKit Go.Sort
def endG (l:List Sg) (i:Nat):Int:=if i+1<l.length then (l.getD (i+1) sg0).a else 1125899906842624
abbrev Spn:=Sg × Int
def spC (x:Spn):List Value:=[.int .i64 x.1.a,.int .i64 x.1.p,.int .i64 x.2]
theorem spC_len (x:Spn):(spC x).length=3:=rfl
def spnG (l:List Sg) (i:Nat):Spn:=(l.getD i sg0,endG l i)
def spns (l:List Sg):List Spn:=(List.range l.length).map (spnG l)
def durG (t:Int) (x:Spn):Int:=max 0 (min t x.2-x.1.a)
def sumG (t:Int) (l:List Spn):Int:=(l.map fun x=>x.1.p*durG t x).sum
def oscR (ph:Int) (l:List Sg) (t:Int):Int:=ph+t+sumG t (spns l) / 1000000000
theorem sg_ok {ph:Int} {l:List Sg} (h:oscE ph l=0):0<l.length/\l.length<=16/\(-1125899906842624<=ph/\ph<=1125899906842624) /\
  (∀ i (hi:i<l.length),(0<=l[i].a/\l[i].a<=1125899906842624)/\(-500000<=l[i].p/\l[i].p<=500000)/\(i=0->l[i].a=0)/\(∀ h0:0<i,(l[i-1]'(by omega)).a<l[i].a)):=by
 unfold oscE at h;split at h
 ·exact absurd h (by decide)
 ·rename_i h1
  split at h
  ·exact absurd h (by decide)
  ·rename_i h2
   split at h
   ·rename_i h3
    refine⟨by omega,by omega,inR_t.1 h3,fun i hi=>?_⟩;have h4:=fe_ok.1 h i (Nat.zero_le _) (by omega);have hg:l.getD i sg0=l[i]:=by rw[getD_eq_getElem?_getD,getElem?_eq_getElem hi];rfl
    unfold sgE at h4;rw[hg] at h4;split at h4
    ·rename_i h5
     split at h4
     ·exact absurd h4 (by decide)
     ·rename_i h6
      split at h4
      ·exact absurd h4 (by decide)
      ·rename_i h7
       refine⟨inR_t.1 h5.1,inR_t.1 h5.2,fun hz=>Classical.byContradiction fun q=>h6 ⟨hz,q⟩,fun h0=>?_⟩;have hg2:l.getD (i-1) sg0=l[i-1]'(by omega):=by rw[getD_eq_getElem?_getD,getElem?_eq_getElem (by omega)];rfl
       rw[hg2] at h7;omega
    ·exact absurd h4 (by decide)
   ·exact absurd h (by decide)
theorem sg_lt {ph:Int} {l:List Sg} (h:oscE ph l=0):∀ (j i:Nat) (hij:i<j) (hj:j<l.length),(l[i]'(by omega)).a<l[j].a
 | 0,_,hij,_=>absurd hij (Nat.not_lt_zero _)
 |j+1,i,hij,hj=>by
  have h1:=((sg_ok h).2.2.2 (j+1) hj).2.2.2 (Nat.succ_pos _);simp only[Nat.add_sub_cancel] at h1;by_cases he:i=j
  ·subst he;exact h1
  ·have:=sg_lt h j i (by omega) (by omega)
   omega
theorem sg_last {ph:Int} {l:List Sg} (h:oscE ph l=0) {i:Nat} (hi:i<l.length):(l[i]=l[l.length-1]'(by omega))↔i+1=l.length:=by
 refine⟨fun he=>?_,fun he=>by congr 1;omega⟩;by_cases hq:i+1=l.length
 ·exact hq
 ·have:=sg_lt h (l.length-1) i (by omega) (by omega)
  rw[he] at this;omega
theorem spn_bd {ph:Int} {l:List Sg} (h:oscE ph l=0) {i:Nat} (hi:i<l.length):(spnG l i).1=l[i]/\0<=(spnG l i).2/\(spnG l i).2<=1125899906842624:=by
 have hg:l.getD i sg0=l[i]:=by rw[getD_eq_getElem?_getD,getElem?_eq_getElem hi];rfl
 refine⟨hg,?_⟩;unfold spnG endG;dsimp only;split
 ·rename_i h1
  have hg2:l.getD (i+1) sg0=l[i+1]:=by rw[getD_eq_getElem?_getD,getElem?_eq_getElem h1];rfl
  rw[hg2];exact ((sg_ok h).2.2.2 (i+1) h1).1
 ·omega
theorem dur_bd (t:Int) (x:Spn) (t1:t<=1125899906842624) (h0:0<=x.1.a):0<=durG t x/\durG t x<=1125899906842624:=by unfold durG;omega
theorem prd_bd {a p A:Int} (a0:0<=a) (a1:a<=A) (p0: -500000<=p) (p1:p<=500000): -(A*500000)<=p*a/\p*a<=A*500000:=by
 have h1:=Int.mul_le_mul_of_nonneg_left p1 a0;have h2:=Int.mul_le_mul_of_nonneg_left p0 a0;have h3:=Int.mul_le_mul_of_nonneg_right a1 (show (0:Int)<=500000 by decide);rw[Int.mul_neg] at h2;rw[Int.mul_comm p a];omega
structure RdG (t:Int) (l:List Spn) (wh rs:Int):Prop where
 sum:wh*1000000000+rs=sumG t l
 w0: -(l.length*562949953500)<=wh
 w1:wh<=l.length*562949953500
 r0: -(l.length*500000000000000)<=rs
 r1:rs<=l.length*500000000000000
theorem RdG.add {t:Int} {l:List Spn} {wh rs:Int} (h:RdG t l wh rs) (x:Spn) (hd:0<=durG t x/\durG t x<=1125899906842624) (p0: -500000<=x.1.p) (p1:x.1.p<=500000) :
  RdG t (l ++ [x]) (wh+x.1.p*(durG t x / 1000000000)) (rs+x.1.p*(durG t x % 1000000000)):=by
 have hs:=h.sum;have a0:=h.w0;have a1:=h.w1;have b0:=h.r0;have b1:=h.r1;have q1:=prd_bd (a:=durG t x / 1000000000) (A:=1125899) (by omega) (by omega) p0 p1;have q2:=prd_bd (a:=durG t x % 1000000000) (A:=1000000000) (by omega) (by omega) p0 p1
 have e:x.1.p*durG t x=x.1.p*(durG t x / 1000000000)*1000000000+x.1.p*(durG t x % 1000000000):=by
  rw[Int.mul_assoc,<-Int.mul_add];congr 1
  omega
 have hsum:sumG t (l ++ [x])=sumG t l+x.1.p*durG t x:=by
  unfold sumG;rw[List.map_append,List.sum_append];simp
 rw[<-e.symm] at hsum;generalize x.1.p*(durG t x / 1000000000)=u at *;generalize x.1.p*(durG t x % 1000000000)=v at *;have hl:((l ++ [x]).length:Int)=(l.length:Int)+1:=by simp
 refine⟨by omega,?_,?_,?_,?_⟩<;>rw[hl]<;>omega
theorem VRow.spn {w wr:World} {n cap k:Nat} {p:Option Addr} {l:List Spn} (hv:VRow spC 3 w p n cap l) (ho:Only [] w wr) (hk:k<l.length) :
  ∃ bk off,p=some ⟨bk,off,none⟩/\bk<wr.heap.size/\wr.cell? ⟨bk,off+k*3,none⟩=some (.int .i64 l[k].1.a)/\wr.cell? ⟨bk,off+k*3+1,none⟩=some (.int .i64 l[k].1.p)/\wr.cell? ⟨bk,off+k*3+2,none⟩=some (.int .i64 l[k].2):=by
 obtain⟨b,off,hp,hb,hc⟩:=(hv.kept ho).cell k l[k] (getElem?_eq_getElem hk);exact⟨b,off,hp,hb,hc 0 _ rfl,hc 1 _ rfl,hc 2 _ rfl⟩
theorem pOReading {w:World} {p:Option Addr} {n cap:Nat} {l:List Spn} (ph t:Int) (hv:VRow spC 3 w p n cap l) (hn:n<=16) (hl:∀ x∈l,(0<=x.1.a/\x.1.a<=1125899906842624)/\(-500000<=x.1.p/\x.1.p<=500000)/\(0<=x.2/\x.2<=1125899906842624)) (h0: -1125899906842624<=ph/\ph<=1125899906842624) (t0:0<=t) (t1:t<=1125899906842624) :
  Calls Tryz.prog 80 #[.int .i64 ph,.slice p n cap,.int .i64 t] w fun e w'=>e=.returned (.int .i64 (ph+t+sumG t l / 1000000000))/\Only [] w w':=by
 have HV:=hid hv;have hln:=hv.len;have hcap:=Nat.le_trans hv.le hv.cm;subst hln;have HL:=hid (fun k (hk:k<l.length)=>hl _ (List.getElem_mem hk));clear hv hl;obtain⟨wo,hwo⟩:∃ wo:World,wo=w:=⟨_,rfl⟩;subst hwo;go_enter Tryz.func80,Tryz.ntmps80
 go_wp2_with fail
 go_loopw [7,8,16] (fun vw vr vi wr=>∃ (j:Nat) (wh rs:Int),j<=l.length/\vw=.int .i64 wh/\vr=.int .i64 rs/\vi=.int .i64 j/\RdG t (l.take j) wh rs/\Only [] wo wr) (fun _ _ vi _=>l.length-(intOf vi).toNat)
 case atStart=>exact⟨0,0,0,Nat.zero_le _,rfl,rfl,rfl,⟨by simp[sumG],by simp,by simp,by simp,by simp⟩,Only.refl _ _⟩
 case round =>
  obtain⟨j,wh,rs,hj,rfl,rfl,rfl,hs,ho⟩:=hrel;have OO:=hid ho;have HS:=hid hs;clear hs ho;by_cases hlt:j<l.length
  ·have hlt2:(j:Int)<(l.length:Int):=by omega
   obtain⟨bk,off,rfl,-⟩:=HV.out.spn (Only.refl _ _) hlt
   have HX:=hid (show ∀ w',Only [] wr w'->_ from fun w' o=>by
    have:=HV.out.spn (OO.out.nil_trans o) hlt;obtain⟨bk',off',e,c1,c2,c3,c4⟩:=this
    cases e
    exact And.intro c1 (And.intro c2 (And.intro c3 c4)))
   have hx:=HL.out j hlt;have HA:=hid (HS.out.add l[j] (dur_bd t l[j] t1 hx.1.1) hx.2.1.1 hx.2.1.2);rw[<-List.take_succ_eq_append_getElem hlt] at HA;have hlen:(l.take j).length=j:=by simp;omega
   have b0:=HS.out.w0;have b1:=HS.out.w1;have b2:=HS.out.r0;have b3:=HS.out.r1;rw[hlen] at b0 b1 b2 b3;have hdb:=dur_bd t l[j] t1 hx.1.1;have q1:=prd_bd (a:=durG t l[j] / 1000000000) (A:=1125899) (by omega) (by omega) hx.2.1.1 hx.2.1.2;have q2:=prd_bd (a:=durG t l[j] % 1000000000) (A:=1000000000) (by omega) (by omega) hx.2.1.1 hx.2.1.2;obtain⟨d,hd⟩:∃ d,durG t l[j]=d:=⟨_,rfl⟩;have HD:=hid (show max 0 (min t l[j].2-l[j].1.a)=d from hd);rw[hd] at hdb q1 q2 HA;generalize l[j]=x at HX hx HD HA q1 q2;obtain⟨⟨sa,sp⟩,se⟩:=x;dsimp only at HX hx HD HA q1 q2;have e1:IntKind.i64.wrap (min t se-sa)=min t se-sa:=by rw[IntKind.wrap_i64];omega
   have e2:max 0 (min t se-sa)=d:=HD.out;have e3:d.tdiv 1000000000=d / 1000000000:=Int.tdiv_eq_ediv_of_nonneg hdb.1;have e4:d.tmod 1000000000=d % 1000000000:=Int.tmod_eq_emod_of_nonneg hdb.1;have e5:IntKind.i64.wrap (d / 1000000000)=d / 1000000000:=by rw[IntKind.wrap_i64];omega
   have e6:IntKind.i64.wrap (d % 1000000000)=d % 1000000000:=by rw[IntKind.wrap_i64];omega
   obtain⟨x1,hx1⟩:∃ y,d / 1000000000=y:=⟨_,rfl⟩;obtain⟨x2,hx2⟩:∃ y,d % 1000000000=y:=⟨_,rfl⟩;rw[hx1] at e3 e5 HA q1;rw[hx2] at e4 e6 HA q2;obtain⟨y1,hy1⟩:∃ y,sp*x1=y:=⟨_,rfl⟩;obtain⟨y2,hy2⟩:∃ y,sp*x2=y:=⟨_,rfl⟩;rw[hy1] at HA q1;rw[hy2] at HA q2;have e7:IntKind.i64.wrap (sp*x1)=y1:=by rw[hy1,IntKind.wrap_i64];omega
   have e8:IntKind.i64.wrap (sp*x2)=y2:=by rw[hy2,IntKind.wrap_i64];omega
   have e9:IntKind.i64.wrap (wh+y1)=wh+y1:=by rw[IntKind.wrap_i64];omega
   have ea:IntKind.i64.wrap (rs+y2)=rs+y2:=by rw[IntKind.wrap_i64];omega
   have eb:IntKind.i64.wrap ((j:Int)+1)=((j+1:Nat):Int):=by rw[IntKind.wrap_i64];omega
   have HJ:=hid (show j+1<=l.length by omega);clear HD hdb hd hx hx1 hx2 hy1 hy2 q1 q2 b0 b1 b2 b3 hlen HS;have m:=mm0 wr [];have k:=m.out.k;have c:=HX.out wr (Only.refl _ _);go_wp2_with ((with_reducible first|refine cU ?_|refine wU ?_);clear k m c;intro w m k;have c:=HX.out w m.out.only)
   (go_roundw;(case rel=>exact⟨j+1,_,_,HJ.out,rfl,rfl,by go_num,HA.out,OO.out.nil_trans gO⟩);(case measure=>first|(simp[intOf];done)|(simp[intOf];omega)))
  ·obtain rfl:j=l.length:=by omega
   have hlt2:decide ((l.length:Int)<(l.length:Int))=false:=by simp
   have hs:=HS.out;rw[List.take_length] at hs;have b0:=hs.w0;have b1:=hs.w1;have b2:=hs.r0;have b3:=hs.r1;have e:=hs.sum;have HF:=hid (fun w'=>o_drew (ffloor rs 1000000000 w' (by omega) (by omega) (by omega) (by omega)));have HR:=hid (show ph+t+wh+rs / 1000000000=ph+t+sumG t l / 1000000000 by rw[<-e];omega);have e1:IntKind.i64.wrap (ph+t)=ph+t:=by rw[IntKind.wrap_i64];omega
   have e2:IntKind.i64.wrap (ph+t+wh)=ph+t+wh:=by rw[IntKind.wrap_i64];omega
   have e3:IntKind.i64.wrap (ph+t+wh+rs / 1000000000)=ph+t+wh+rs / 1000000000:=by rw[IntKind.wrap_i64];omega
   generalize rs / 1000000000=q at HF e3 HR;clear hs HS e b0 b1 b2 b3;have m:=mm0 wr [];have k:=m.out.k;go_wp2_with (first|((with_reducible first|refine cM (HF.out _) ?_|refine cU ?_|refine wU ?_);clear k m;intro w m k)|((with_reducible refine lE (fun w o g k K hK=>⟨rfl,?_⟩));simp[results,Tryz.results80,go_sem];refine hK _ ?_;exact⟨by rw[HR.out],OO.out.trans o (by simp)⟩))
theorem spns_len (l:List Sg):(spns l).length=l.length:=by simp[spns]
theorem fill_set {l:List Sg} {j:Nat} (hj:j<l.length):((spns l).take j ++ List.replicate (l.length-j) (sg0,(0:Int))).set j (spnG l j)=(spns l).take (j+1) ++ List.replicate (l.length-(j+1)) (sg0,0):=by
 have hl:((spns l).take j).length=j:=by rw[List.length_take,spns_len];omega
 rw[List.set_append_right _ _ (by omega),hl,Nat.sub_self,show l.length-j=(l.length-(j+1))+1 by omega,List.replicate_succ,List.set_cons_zero,List.take_succ_eq_append_getElem (by rw[spns_len];exact hj),List.append_assoc];simp[spns]
@[go_sem ↓] theorem sg_neq (a b c d:Int) (w:World):(binOp .neq 48 (.agg #[.int .i64 a,.int .i64 b]) (.agg #[.int .i64 c,.int .i64 d])).run Tryz.prog w=.ok (.bool (!(a == c && b == d))) w:=by
 by_cases h1:a=c
 ·by_cases h2:b=d
  ·simp[go_sem,h1,h2]
  ·simp[go_sem,h1,h2]
 ·simp[go_sem,h1]
theorem flat_setC {α:Type} {enc:α->List Value} {s:Nat} (hs:∀ x,(enc x).length=s) {j:Nat} {v:Value} (hj:j<s) {x':α}:∀ (l:List α) (i:Nat) (hi:i<l.length),enc x'=(enc l[i]).set j v->(l.flatMap enc).set (i*s+j) v=(l.set i x').flatMap enc
 | [],i,hi,_=>absurd hi (by simp)
 |y::l,0,_,hx=>by
  simp only[List.getElem_cons_zero] at hx;simp only[List.flatMap_cons,List.set_cons_zero,hx,Nat.zero_mul,Nat.zero_add];rw[List.set_append_left _ _ (by rw[hs];exact hj)]
 |y::l,i+1,hi,hx=>by
  simp only[List.getElem_cons_succ] at hx;simp only[List.flatMap_cons,List.set_cons_succ];rw[List.set_append_right _ _ (by rw[hs,Nat.succ_mul];omega),hs,show (i+1)*s+j-s=i*s+j by rw[Nat.succ_mul];omega,flat_setC hs hj l i (by simpa using hi) hx]
theorem RowAt.setC {α:Type} {enc:α->List Value} {e:TypeId} {s:Nat} (hs:∀ x,(enc x).length=s) {w:World} {g cap:Nat} {l:List α} (h:RowAt enc e s w g cap l) {i j:Nat} (hi:i<l.length) (hj:j<s) {v:Value} {x':α} (hx:enc x'=(enc l[i]).set j v) :
  RowAt enc e s (w.setCell ⟨g,i*s+j,none⟩ v) g cap (l.set i x'):=by
 obtain⟨cur,h1,h2,h3,h4,h5⟩:=h
 have hlt:i*s+j<l.length*s:=by
  have:=Nat.mul_le_mul_right s (show i+1<=l.length by omega);rw[Nat.succ_mul] at this;omega
 refine⟨cur.setIfInBounds (i*s+j) v,setCell_got v h1,by simp[h2],by simpa using h3,h4,?_⟩
 ·rw[List.length_set,Array.toList_setIfInBounds,<-flat_setC hs hj l i hi hx,<-h5,List.take_set]
theorem pSpans {w:World} {p:Option Addr} {n cap:Nat} {l:List Sg} (ph:Int) (hv:VRow sgC 2 w p n cap l) (hok:oscE ph l=0) :
  Calls Tryz.prog 81 #[.agg #[.int .i64 ph,.slice p n cap]] w fun e w'=>∃ g,e=.returned (.slice (some ⟨g,0,none⟩) n n)/\w.heap.size<=g/\RowAt spC 240 3 w' g n (spns l)/\Only [] w w':=by
 have HV:=hid hv;have hln:=hv.len;have hcap:=Nat.le_trans hv.le hv.cm;subst hln;have HK:=hid hok;have hk:=sg_ok hok;have h0:=hk.1;have h16:=hk.2.1;clear hv hok hk;obtain⟨wo,hwo⟩:∃ wo:World,wo=w:=⟨_,rfl⟩;subst hwo;obtain⟨bl,ol,hpl,hl0,-⟩:=HV.out.cell (l.length-1) (l[l.length-1]'(by omega)) (getElem?_eq_getElem (by omega));subst hpl
 have HXL:=hid (show ∀ w',Only [] wo w'->bl<w'.heap.size/\w'.cell? ⟨bl,ol+(l.length-1)*2,none⟩=some (.int .i64 (l[l.length-1]'(by omega)).a)/\w'.cell? ⟨bl,ol+(l.length-1)*2+1,none⟩=some (.int .i64 (l[l.length-1]'(by omega)).p) from fun w' o=>by
  obtain⟨b',o',e,c1,c2⟩:=(HV.out.kept o).cell (l.length-1) (l[l.length-1]'(by omega)) (getElem?_eq_getElem (by omega))
  cases e
  exact And.intro c1 (And.intro (c2 0 _ rfl) (c2 1 _ rfl)))
 obtain⟨sl,hsl⟩:∃ s,l[l.length-1]'(by omega)=s:=⟨_,rfl⟩;have HLS:=hid hsl;simp only[hsl] at HXL;clear hsl hl0;obtain⟨la,lp⟩:=sl;dsimp only at HXL;have r0:IntKind.i64.wrap ((l.length:Int)-1)=((l.length-1:Nat):Int):=by rw[IntKind.wrap_i64];omega
 have m:=mm0 wo [];have k:=m.out.k;go_enter Tryz.func81,Tryz.ntmps81
 go_upto_region 1 with (fail)
 refine wU ?_;clear k m;intro w m k;have hgs:wo.heap.size<=w.heap.size:=m.out.only.size;have hbo:wo.heap.size<w.heap.size:=got_lt (gB (w:=w) (b:=wo.heap.size));go_wp2_with (refine wpList_make_own spC rfl _ _ 209 rfl 240 (.agg #[.int .i64 0,.int .i64 0,.int .i64 0]) 3 24 Tryz.underlying209 (by kernel_rfl) spC_len (sg0,0) rfl .i64 .i64 _ _ l.length rfl rfl rfl rfl (by omega) (by unfold maxLen;omega) ?_;intro w1 hr1 ho1 hs1;refine stop_here ?_)
 replace m:=m.oth ho1 (by simp) (by simp);clear k;have HR:=hid hr1;have hg1:w.heap.size<w1.heap.size:=by omega
 clear hr1 ho1 hs1;generalize w.heap.size=g at HR hgs hbo hg1 ⊢;clear w;obtain⟨w,hw⟩:∃ w:World,w=w1:=⟨_,rfl⟩;subst hw;have HR':=hid (show ∀ w',Only [] w w'->RowAt spC 240 3 w' g l.length (List.replicate l.length (sg0,0)) from fun w' o=>HR.out.kept o (by simp));obtain⟨wk,hwk⟩:∃ wk:World,wk=w:=⟨_,rfl⟩;have MK:=hid m.out.only;have hbx:=gB (w:=w) (b:=wo.heap.size);subst hwk;clear m;have m:=mmR hbx;have k:=m.out.k;have c:=HXL.out wk MK.out;have HXL:=hid (show ∀ w',Only [] wk w'->bl<w'.heap.size/\w'.cell? ⟨bl,ol+(l.length-1)*2,none⟩=some (.int .i64 la)/\w'.cell? ⟨bl,ol+(l.length-1)*2+1,none⟩=some (.int .i64 lp) from fun w' o=>HXL.out w' (MK.out.trans o (by simp)));refine stop_go ?_;go_wp2_with ((with_reducible first|refine cU ?_|refine wU ?_);clear k m c;intro w m k;have c:=HXL.out w m.out.only)
 have h4:=gB (w:=w) (b:=wk.heap.size);have hbx:=gB (w:=w) (b:=wo.heap.size);have n4:wk.heap.size≠wo.heap.size:=gN w;have OB:=hid (MK.out.trans m.out.only (by simp));have HG:=hid (HR'.out w m.out.only);have hg4:g≠wk.heap.size:=by omega
 generalize wk.heap.size=b4 at h4 n4 hg4 ⊢;have H4:=hid h4;have HB:=hid hbx;clear k m c h4 hbx HR HR' HXL MK hg1;obtain⟨wl,hwl⟩:∃ wl:World,wl=w:=⟨_,rfl⟩;subst hwl;go_loopw [22] (fun vi wr=>∃ j:Nat,j<=l.length/\vi=.int .i64 j/\RowAt spC 240 3 wr g l.length ((spns l).take j ++ List.replicate (l.length-j) (sg0,0))/\Only [g] wl wr) (fun vi _=>l.length-(intOf vi).toNat)
 case atStart=>exact⟨0,Nat.zero_le _,rfl,by simpa using HG.out,Only.refl _ _⟩
 case round =>
  obtain⟨j,hj,rfl,hrow,ho⟩:=hrel;have HRow:=hid hrow;have OO:=hid ho;have hob:wo.heap.size ∉ [g]:=by simp;omega
  have ho4:b4 ∉ [g]:=by simp;omega
  have H4r:=hid (ho.got H4.out ho4);have HBr:=hid (ho.got HB.out hob);have WW:=hid (OB.out.trans ho (fun q hq=>.inr (by rw[List.mem_singleton.1 hq];exact hgs)));clear hrow ho;by_cases hlt:j<l.length
  ·have hlt2:(j:Int)<(l.length:Int):=by omega
   have HX:=hid (show ∀ (i:Nat) (hi:i<l.length) w',Only [g] wr w'->bl<w'.heap.size/\w'.cell? ⟨bl,ol+i*2,none⟩=some (.int .i64 (l[i]).a)/\w'.cell? ⟨bl,ol+i*2+1,none⟩=some (.int .i64 (l[i]).p) from fun i hi w' o=>by
    obtain⟨b',o',e,c1,c2⟩:=(HV.out.kept (WW.out.trans o (fun q hq=>.inr (by rw[List.mem_singleton.1 hq];exact hgs)))).cell i l[i] (getElem?_eq_getElem hi)
    cases e
    exact⟨c1,c2 0 _ rfl,c2 1 _ rfl⟩)
   obtain⟨cur,hcur,hcs,-⟩:=HRow.out;have HCU:=hid hcur;have HFS:=hid (fill_set hlt);have HLT:=hid (sg_last HK.out hlt);rw[HLS.out] at HLT;have hsg:spnG l j=(l[j],endG l j):=by unfold spnG;rw[getD_eq_getElem?_getD,getElem?_eq_getElem hlt];rfl
   rw[hsg] at HFS;have HXJ:=hid (HX.out j hlt);have HND:=hid (show endG l j=if j+1<l.length then (l.getD (j+1) sg0).a else 1125899906842624 from rfl);clear hcur hsg;generalize l[j]=s at HXJ HFS HLT;obtain⟨sa,sp⟩:=s;dsimp only at HXJ;have r1:IntKind.i64.wrap ((j:Int)+1)=((j+1:Nat):Int):=by rw[IntKind.wrap_i64];omega
   have m:Mm wr [] wr _:=⟨((Mem.start wr []).ext false HBr.out (by simp) (by simp)).ext false H4r.out (by simpa using n4) (by simp)⟩;have k:=m.out.k;have c:=HXJ.out wr (Only.refl _ _);have hwr:g<wr.heap.size:=HRow.out.lt;have hsz:cur.size=l.length*3:=hcs;have hfit:j*3+3<=cur.size:=by omega
   clear hcs;go_wp2_with ((with_reducible show wpList _ _ _ (⟨none,Op.store 240 _ _,_,_,_,_⟩::_) _ _);refine wpList_store_row rfl _ _ _ rfl 3 (by kernel_rfl) g (j*3) rfl (.agg #[.int .i64 sa,.int .i64 sp,.int .i64 1125899906842624]) rfl rfl rfl cur _ (gO.got HCU.out (by simp)) (by omega) ?_;intro w1 hg1 ho1 hs1;refine stop_here ?_)
   have hc1:=ho1.got (gB (b:=wr.heap.size)) (by simp;omega);have h41:=ho1.got (gB (b:=b4)) (by simpa using fun q=>hg4 q.symm);have hb1:=ho1.got (gB (b:=wo.heap.size)) (by simp;omega);have n1:wr.heap.size≠b4:=by have:=got_lt H4r.out;omega
   have n2:wr.heap.size≠wo.heap.size:=by omega
   have O1:=hid (Only.nil_left gO ho1);have hr0:RowAt spC 240 3 (wr.alloc (.cells #[.int .i64 sa,.int .i64 sp] 48)) g l.length _:=HRow.out.kept gO (by simp);have hjl:j<((spns l).take j ++ List.replicate (l.length-j) (sg0,(0:Int))).length:=by simp[spns_len];omega
   have hr1:=RowAt.set spC_len (x:=((⟨sa,sp⟩,1125899906842624):Spn)) hjl hr0 (gO.got HCU.out (by simp)) hg1;have HR1:=hid hr1;clear hg1 ho1 hs1 hr0 hr1 m k c HRow;obtain⟨bc,hbc⟩:∃ bc,wr.heap.size=bc:=⟨_,rfl⟩;rw[hbc] at hc1 n1 n2 ⊢;obtain⟨wx,hwx⟩:∃ wx:World,wx=w1:=⟨_,rfl⟩;subst hwx;have HJ:=hid (show j+1<=l.length by omega);have hgx:g<wx.heap.size:=HR1.out.lt;have m:Mm wx [g] wx _:=⟨(((Mem.start wx [g]).ext false hb1 (by simp) (by simp)).ext false h41 (by simpa using n4) (by simp)).ext false hc1 (by simp;omega) (by simp)⟩;have k:=m.out.k;clear hc1 h41 hb1;refine stop_go ?_;by_cases hjn:j+1=l.length
   ·have hse:=HLT.out.2 hjn
    rw[Sg.mk.injEq] at hse;obtain⟨rfl,rfl⟩:=hse;have hq:(sa == sa && sp == sp)=true:=by simp
    have HN:=HND.out;rw[if_neg (by omega)] at HN;rw[HN] at HFS;rw[HFS.out] at HR1;clear HND HN HLT HX HXJ hjn;go_wp2;go_roundw
    case rel=>exact⟨j+1,HJ.out,by go_num,HR1.out,OO.out.trans O1.out (fun q hq=>.inl hq)⟩
    case measure=>first|(simp[intOf];done)|(simp[intOf];omega)
   ·have hse:¬ ((⟨sa,sp⟩:Sg)=⟨la,lp⟩):=fun q=>hjn (HLT.out.1 q)
    have hq:(sa == la && sp == lp)=false:=by
     rw[Sg.mk.injEq] at hse;simpa using hse
    have hn1:j+1<l.length:=by omega
    have hn2:((j+1:Nat):Int)<(l.length:Int):=by omega
    have HN:=HND.out;have hgd:l.getD (j+1) sg0=l[j+1]:=by rw[getD_eq_getElem?_getD,getElem?_eq_getElem hn1];rfl
    rw[if_pos hn1,hgd] at HN;have HXN:=HX.out (j+1) hn1;have c:=HXN wx O1.out
    have c8:∃ v,wx.cell? ⟨g,j*3+2,none⟩=some v:=by
     have:=RowAt.cell spC_len HR1.out (i:=j) (j:=2) (x:=((⟨sa,sp⟩,1125899906842624):Spn)) (by rw[List.getElem?_set_self hjl]) (by decide);exact⟨_,this⟩
    obtain⟨v8,c8⟩:=c8;have c9:=HR1.out.frozen (j*3+2);have HR2:=hid (RowAt.setC spC_len HR1.out (i:=j) (j:=2) (v:=.int .i64 (l[j+1]).a) (x':=((⟨sa,sp⟩,(l[j+1]).a):Spn)) (by rw[List.length_set];exact hjl) (by decide) (by rw[List.getElem_set_self];rfl));rw[HN] at HFS;rw[List.set_set,HFS.out] at HR2;generalize l[j+1]=s2 at c HR2 HXN;obtain⟨s2a,s2p⟩:=s2;dsimp only at c HR2;clear HND HN HLT HX HXJ hjn hse HXN HFS hgd HR1;go_wp2;go_roundw
    case rel=>exact⟨j+1,HJ.out,by go_num,HR2.out,(OO.out.trans O1.out (fun q hq=>.inl hq)).setCell (.inl (by simp)) _⟩
    case measure=>first|(simp[intOf];done)|(simp[intOf];omega)
  ·obtain rfl:j=l.length:=by omega
   have hlt2:decide ((l.length:Int)<(l.length:Int))=false:=by simp
   have hr:=HRow.out;rw[Nat.sub_self,List.replicate_zero,List.append_nil,List.take_of_length_le (by rw[spns_len];omega)] at hr;have HRF:=hid hr;clear hr HRow H4r HBr;go_wp2;go_ret
   exact⟨g,rfl,hgs,HRF.out,WW.out⟩
theorem spns_mem {ph:Int} {l:List Sg} (h:oscE ph l=0):∀ x∈spns l,(0<=x.1.a/\x.1.a<=1125899906842624)/\(-500000<=x.1.p/\x.1.p<=500000)/\(0<=x.2/\x.2<=1125899906842624):=by
 intro x hx;unfold spns at hx;obtain⟨i,hi,rfl⟩:=List.mem_map.1 hx;have hi:=List.mem_range.1 hi;have h1:=spn_bd h hi;have h2:=(sg_ok h).2.2.2 i hi;rw[h1.1];exact⟨h2.1,h2.2.1,h1.2⟩
theorem pORead {w:World} {p:Option Addr} {n cap:Nat} {l:List Sg} (ph t:Int) (hv:VRow sgC 2 w p n cap l) (hok:oscE ph l=0) (t0:0<=t) (t1:t<=1125899906842624) :
  Calls Tryz.prog 63 #[.agg #[.int .i64 ph,.slice p n cap],.int .i64 t] w fun e w'=>e=.returned (.tuple #[.int .i64 (oscR ph l t),.int .i64 0])/\Only [] w w':=by
 have hk:=sg_ok hok;have h16:=hk.2.1;have HC:=hid (fun w' (o:Only [] w w')=>by have:=pOsc ph (hv.kept o) (by have:=hv.len;omega);rw[hok] at this;exact this);have HS:=hid (fun w' (o:Only [] w w')=>pSpans ph (hv.kept o) hok);have hln:=hv.len;have HR:=hid (fun w' p' c' (hv':VRow spC 3 w' p' n c' (spns l))=>pOReading ph t hv' (by omega) (spns_mem hok) hk.2.2.1 t0 t1);have HE:Hid (ph+t+sumG t (spns l) / 1000000000=oscR ph l t):=hid rfl;rw[HE.out] at HR;have HLN:=hid (show n=(spns l).length by rw[spns_len];exact hln.symm);have d1:decide (t<0)=false:=decide_eq_false (by omega);have d2:decide (1125899906842624<t)=false:=decide_eq_false (by omega);generalize oscR ph l t=r at HR ⊢;clear HE hk h16 hv hok t0 t1 hln;obtain⟨wo,hwo⟩:∃ wo:World,wo=w:=⟨_,rfl⟩;subst hwo;have m:=mm0 wo [];have k:=m.out.k;go_enter Tryz.func63,Tryz.ntmps63
 go_wp2_with (first|((with_reducible first|refine cM (HC.out _ gO) ?_|refine cU ?_|refine wU ?_);clear k m;intro w m k)|((with_reducible refine rA (id:=6) [0,1,2] [4] 3 [5,6,7] (by kernel_rfl) (by kernel_rfl) ?_);simp only[pick,List.map_cons,List.map_nil,List.getD_cons_succ,List.getD_cons_zero];(repeat (first|(refine wpCalmG_step (fun K hK=>?_);go_simp;refine hK _ ?_;clear hK K)));refine wpCalmG_nil ?_;(repeat (refine wpCalm_step (fun K hK=>?_);go_simp;refine hK _ ?_;clear hK K));refine wpCalm_nil ?_;refine stop_here ?_))
 refine stop_go ?_;clear k m;intro w o m k;refine wpOp_one rfl ?_;go_wp2_with fail
 refine (HS.out w gO).mono ?_;rintro e w2 ⟨g,rfl,hg,hrow,ho⟩;go_wp2;simp only[nrm];refine⟨o.nil_trans ho,fun w3 o3=>?_⟩;replace m:=(m.oth (ho.nil_trans o3) (by simp) (by simp));have HRR:=hid (hrow.kept o3 (by simp));have HVV:=hid (HR.out w3 _ _ (HRR.out.vrow spC_len HLN.out));clear k o hg hrow ho o3;have k:=m.out.k;unfold wpTail;refine wpOp_one rfl ?_;go_wp2_with fail
 refine HVV.out.mono ?_;rintro e w4 ⟨rfl,ho⟩;go_wp2;simp only[nrm];replace m:=m.oth ho (by simp) (by simp);clear k ho;have k:=m.out.k;refine tW ?_;clear k m;intro w m k;unfold wpTail;refine wpOp_one rfl ?_;go_wp2;simp only[nrm];refine tW ?_;clear k m;intro w m k;unfold wpTail;refine wpOp_one rfl ?_;go_wp2;simp only[nrm];refine tW ?_;clear k m;intro w m k;unfold wpTail;go_wp2_with (first|((with_reducible refine wU ?_);clear k m;intro w m k)|((with_reducible refine lE (fun w o g k K hK=>⟨rfl,?_⟩));simp[results,Tryz.results63,go_sem];refine hK _ ?_;exact⟨rfl,o⟩))
end
section
open Go.Lib (hid)
set_option maxRecDepth 100000
set_option maxHeartbeats 4000000
open Go.RowKit Go.Sort
def shoN (n:Int):Int:=n / 1000000000*65536+(n % 1000000000*65536+999999999) / 1000000000
def shoF (n:Int):Int × Int:=if n<0 then (0,3) else if 4294967295<shoN n then (0,3) else (shoN n,0)
theorem shoF_u (n:Int):0<=(shoF n).1/\(shoF n).1<=4294967295:=by
 unfold shoF;split
 ·exact⟨by decide,by decide⟩
 ·split
  ·exact⟨by decide,by decide⟩
  ·unfold shoN at *
   dsimp only;omega
theorem pShortS (n:Int) (h1:n<=9007199254740992) (w:World) :
  Calls Tryz.prog 202 #[.int .i64 n] w fun e w'=>e=.returned (.tuple #[.int .u32 (shoF n).1,.int .i64 (shoF n).2])/\Only [] w w':=by
 obtain⟨res,HE⟩:∃ zz,Hid (shoF n=zz):=⟨_,hid rfl⟩;rw[HE.out];unfold shoF at HE;by_cases hn:n<0
 focus
  have dhn:decide (n<0)=true:=decide_eq_true hn;rw[if_pos hn] at HE;obtain rfl:=HE.out
 rotate_left 1
 focus
  have dhn:decide (n<0)=false:=decide_eq_false hn;rw[if_neg hn] at HE;have t1:n.tdiv 1000000000=n / 1000000000:=Int.tdiv_eq_ediv_of_nonneg (by omega);have t2:n.tmod 1000000000=n % 1000000000:=Int.tmod_eq_emod_of_nonneg (by omega);unfold shoN at HE;have e1:IntKind.i64.wrap (n / 1000000000)=n / 1000000000:=by rw[IntKind.wrap_i64];omega
  have e2:IntKind.i64.wrap (n % 1000000000)=n % 1000000000:=by rw[IntKind.wrap_i64];omega
  have b1:0<=n / 1000000000/\n / 1000000000<=9007200:=by omega
  have b2:0<=n % 1000000000/\n % 1000000000<=999999999:=by omega
  generalize n / 1000000000=q at *;generalize n % 1000000000=r at *;have e3:IntKind.i64.wrap (q*65536)=q*65536:=by rw[IntKind.wrap_i64];omega
  have e4:IntKind.i64.wrap (r*65536)=r*65536:=by rw[IntKind.wrap_i64];omega
  have e5:IntKind.i64.wrap (r*65536+1000000000)=r*65536+1000000000:=by rw[IntKind.wrap_i64];omega
  have e6:IntKind.i64.wrap (r*65536+1000000000-1)=r*65536+999999999:=by rw[IntKind.wrap_i64];omega
  have t3:(r*65536+999999999).tdiv 1000000000=(r*65536+999999999) / 1000000000:=Int.tdiv_eq_ediv_of_nonneg (by omega);have b3:0<=(r*65536+999999999) / 1000000000/\(r*65536+999999999) / 1000000000<=65537:=by omega
  generalize (r*65536+999999999) / 1000000000=z at *;have e7:IntKind.i64.wrap z=z:=by rw[IntKind.wrap_i64];omega
  have e8:IntKind.i64.wrap (q*65536+z)=q*65536+z:=by rw[IntKind.wrap_i64];omega
  obtain⟨y,hy⟩:∃ y,q*65536+z=y:=⟨_,rfl⟩;rw[hy] at HE e8;by_cases hg:4294967295<y
  focus
   have dhg:decide (4294967295<y)=true:=decide_eq_true hg;rw[if_pos hg] at HE;obtain rfl:=HE.out
  rotate_left 1
  focus
   have dhg:decide (4294967295<y)=false:=decide_eq_false hg;rw[if_neg hg] at HE;obtain rfl:=HE.out;have e9:IntKind.u32.wrap y=y:=by rw[IntKind.wrap_u32];omega
 all_goals
  have m:=mm0 w [];have k:=m.out.k;go_enter Tryz.func202,Tryz.ntmps202
  go_wp2_with (first|((with_reducible refine wU ?_);clear k m;intro w m k)|((with_reducible refine lE (fun w o g k K hK=>⟨rfl,?_⟩));simp[results,Tryz.results202,go_sem];refine hK _ ?_;exact⟨rfl,o⟩))
def priF (d id:Int):Rot × Int:=if ochk ⟨1,0,d,id⟩=0 then (⟨1,0,d,id⟩,0) else (ro0,3)
theorem pPrimary (d id:Int) (w:World) :
  Calls Tryz.prog 175 #[.int .i64 d,.int .u32 id] w fun e w'=>e=.returned (.tuple #[roV (priF d id).1,.int .i64 (priF d id).2])/\Only [] w w':=by
 have HC:=hid (fun w'=>pOChecked ⟨1,0,d,id⟩ w');obtain⟨res,HE⟩:∃ zz,Hid (priF d id=zz):=⟨_,hid rfl⟩;rw[HE.out];unfold priF at HE;generalize ochk ⟨1,0,d,id⟩=e at HC HE;unfold roV at HC ⊢;unfold ro0 at HC HE;dsimp only at HC;by_cases h:e=0
 focus
  rw[if_pos h,if_pos h] at HC;rw[if_pos h] at HE;obtain rfl:=HE.out
 rotate_left 1
 focus
  rw[if_neg h,if_neg h] at HC;rw[if_neg h] at HE;obtain rfl:=HE.out
 all_goals
  dsimp only at HC;have m:=mm0 w [];have k:=m.out.k;go_enter Tryz.func175,Tryz.ntmps175
  go_wp2_with (first|((with_reducible first|refine cM (HC.out _) ?_|refine wU ?_);clear k m;intro w m k)|((with_reducible refine lE (fun w o g k K hK=>⟨rfl,?_⟩));simp[results,Tryz.results175,go_sem,k];refine hK _ ?_;exact⟨rfl,o⟩))
def fldF (r:Rot):Int × Int × Int:=if ochk r=0 then (if (shoF r.dly).2=0 then (if (shoF r.dsp).2=0 then ((shoF r.dly).1,(shoF r.dsp).1,0) else (0,0,(shoF r.dsp).2)) else (0,0,(shoF r.dly).2)) else (0,0,ochk r)
theorem ochk_bd {r:Rot} (h:ochk r=0):r.dly<=9007199254740992/\r.dsp<=9007199254740992:=by
 unfold ochk at h;split at h
 ·rename_i h1
  simp only[Bool.and_eq_true] at h1;have a:=h1.2.1;have b:=h1.2.2;unfold isSp at a b;unfold wth at a b;simp only[Bool.and_eq_true,decide_eq_true_eq] at a b;omega
 ·exact absurd h (by decide)
theorem pFields (r:Rot) (w:World) :
  Calls Tryz.prog 186 #[roV r] w fun e w'=>e=.returned (.tuple #[.int .u32 (fldF r).1,.int .u32 (fldF r).2.1,.int .i64 (fldF r).2.2])/\Only [] w w':=by
 have HC:=hid (fun w'=>pOChk r w');have HB:=hid (fun h=>ochk_bd (r:=r) h);obtain⟨res,HE⟩:∃ zz,Hid (fldF r=zz):=⟨_,hid rfl⟩;rw[HE.out];unfold fldF at HE;generalize ochk r=e at HC HE HB;obtain⟨r1,r2,r3,r4⟩:=r;unfold roV at HC ⊢;dsimp only at HC HE HB ⊢;by_cases h:e=0
 ·subst h
  rw[if_pos rfl] at HE;have H1:=hid (fun w'=>pShortS r2 (HB.out rfl).1 w');have H2:=hid (fun w'=>pShortS r3 (HB.out rfl).2 w');generalize shoF r2=a at H1 HE;generalize shoF r3=b at H2 HE;obtain⟨a1,a2⟩:=a;obtain⟨b1,b2⟩:=b;dsimp only at H1 H2 HE;by_cases ha:a2=0
  ·subst ha
   rw[if_pos rfl] at HE;by_cases hb:b2=0
   focus
    subst hb;rw[if_pos rfl] at HE;obtain rfl:=HE.out
   rotate_left
   focus
    rw[if_neg hb] at HE;obtain rfl:=HE.out;have k2:(b2 != 0)=true:=by simpa using hb
   rotate_left
   all_goals
    have m:=mm0 w [];have k:=m.out.k;go_enter Tryz.func186,Tryz.ntmps186
    go_wp2_with (first|((with_reducible first|refine cM (HC.out _) ?_|refine cM (H1.out _) ?_|refine cM (H2.out _) ?_|refine wU ?_);clear k m;intro w m k)|((with_reducible refine lE (fun w o g k K hK=>⟨rfl,?_⟩));simp[results,Tryz.results186,go_sem];refine hK _ ?_;exact⟨rfl,o⟩))
  ·rw[if_neg ha] at HE
   obtain rfl:=HE.out;have k1:(a2 != 0)=true:=by simpa using ha
   have m:=mm0 w [];have k:=m.out.k;go_enter Tryz.func186,Tryz.ntmps186
   go_wp2_with (first|((with_reducible first|refine cM (HC.out _) ?_|refine cM (H1.out _) ?_|refine wU ?_);clear k m;intro w m k)|((with_reducible refine lE (fun w o g k K hK=>⟨rfl,?_⟩));simp[results,Tryz.results186,go_sem];refine hK _ ?_;exact⟨rfl,o⟩))
 ·rw[if_neg h] at HE
  obtain rfl:=HE.out;have k0:(e != 0)=true:=by simpa using h
  have m:=mm0 w [];have k:=m.out.k;go_enter Tryz.func186,Tryz.ntmps186
  go_wp2_with (first|((with_reducible first|refine cM (HC.out _) ?_|refine wU ?_);clear k m;intro w m k)|((with_reducible refine lE (fun w o g k K hK=>⟨rfl,?_⟩));simp[results,Tryz.results186,go_sem];refine hK _ ?_;exact⟨rfl,o⟩))
end
end Go.Proofs.YtppjhbjmfkiejaaGreat
