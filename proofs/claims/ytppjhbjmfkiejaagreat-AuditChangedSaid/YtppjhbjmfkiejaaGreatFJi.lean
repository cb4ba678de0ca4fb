/- Ji Jj -/
import Derived.Test.YtppjhbjmfkiejaaGreatFV7
import Derived.Test.YtppjhbjmfkiejaaGreatFJc
import Derived.Test.YtppjhbjmfkiejaaGreatFJa
import Derived.Test.YtppjhbjmfkiejaaGreatFV6
namespace Go.Proofs.YtppjhbjmfkiejaaGreat
open IntKind (wrap_i64)
set_option maxRecDepth 100000
set_option maxHeartbeats 20000000
open IntKind (wrap)
section
open Go.RowKit Go.Sort
def cfS (x y:iU):Int:=if Lib.compareInt x.dly y.dly != 0 then Lib.compareInt x.dly y.dly else Lib.compareInt y.tat x.tat
theorem OH (x y:iU):ltOf cfS x y=decide (x.dly<y.dly\/(x.dly=y.dly/\y.tat<x.tat)):=by
 unfold ltOf cfS Lib.compareInt;by_cases h1:x.dly<y.dly
 ·simp[h1]
 ·by_cases h2:y.dly<x.dly
  ·have:x.dly≠y.dly:=by omega
   simp[h1,h2,this]
  ·have e:x.dly=y.dly:=by omega
   by_cases h5:y.tat<x.tat
   ·simp[e,h5]
   ·by_cases h6:x.tat<y.tat<;>simp[e,h5,h6]
theorem cfS_swo:SWO (ltOf cfS) where
 irrefl x:=by rw[OH];simp
 trans x y z h1 h2:=by rw[OH] at *;simp only[decide_eq_true_eq] at *;omega
 ntrans x y z h1 h2:=by rw[OH] at *;simp only[decide_eq_false_iff_not] at *;omega
theorem PX (c:iU):∀ u∈jX c,u.oneCell'=true:=by
 intro u hu;simp only[jX,List.mem_cons,List.not_mem_nil,or_false] at hu;rcases hu with rfl|rfl|rfl|rfl<;>rfl
def uL (l:List iU):List iU:=(Sort.insertionSort (ltOf cfS) l.toArray 0 l.length).toList
theorem nO (l:List iU):(uL l).Perm l:=by
 have h:=(insertionSort_holds (lt:=ltOf cfS) cfS_swo l.toArray 0 l.length (Nat.zero_le _) (by simp)).1;obtain⟨h1,_,h3⟩:=h;unfold uL;generalize Sort.insertionSort (ltOf cfS) l.toArray 0 l.length=d at h1 h3;have e1:d.extract 0 l.length=d:=by rw[show l.length=d.size by rw[h1];simp];simp
 have e2:l.toArray.extract 0 l.length=l.toArray:=by simp
 rw[e1,e2] at h3;simpa using h3
structure OsW (W:World) (xo xd xp xt yo yd yp yt:Int) (w:World):Prop where
 eq:∃ q os',w=grow (W.drewN q) os'
 a:w.heap[W.heap.size]? = some (.cells #[.int .i64 xo,.int .i64 xd,.int .i64 xp,.int .i64 xt] 222 (0,0))
 b:w.heap[W.heap.size+1]? = some (.cells #[.int .i64 yo,.int .i64 yd,.int .i64 yp,.int .i64 yt] 222 (0,0))
theorem UG (W:World) (xo xd xp xt yo yd yp yt:Int):OsW W xo xd xp xt yo yd yp yt ((W.alloc (.cells #[.int .i64 xo,.int .i64 xd,.int .i64 xp,.int .i64 xt] 222)).alloc (.cells #[.int .i64 yo,.int .i64 yd,.int .i64 yp,.int .i64 yt] 222)):=by
 refine⟨⟨0,_,by rw[alloc_eq_grow,alloc_eq_grow,grow_grow];rfl⟩,alloc_old (bG _ _),?_⟩;have:=bG (W.alloc (.cells #[.int .i64 xo,.int .i64 xd,.int .i64 xp,.int .i64 xt] 222)) (.cells #[.int .i64 yo,.int .i64 yd,.int .i64 yp,.int .i64 yt] 222);rwa [World.size_alloc] at this
theorem pOrdCmp (x y:iU) (W:World):Calls Tryz.prog 302 #[wV x,wV y] W fun e w'=>e=.returned (.int .i64 (cfS x y))/\∃ q os',w'=grow (W.drewN q) os':=by
 obtain⟨xo,xd,xp,xt⟩:=x;obtain⟨yo,yd,yp,yt⟩:=y;have H1:=aA (fun W'=>Tryz.cmp_Compare_int xd yd W');have H2:=aA (fun W'=>Tryz.cmp_Compare_int yt xt W');obtain⟨r,HE⟩:∃ r,Hid (cfS ⟨xo,xd,xp,xt⟩ ⟨yo,yd,yp,yt⟩=r):=⟨_,aA rfl⟩;rw[HE.out];unfold cfS at HE;dsimp only at HE;generalize Lib.compareInt xd yd=a at H1 HE;generalize Lib.compareInt yt xt=b at H2 HE;unfold wV;dsimp only;go_enter Tryz.func302,Tryz.ntmps302
 go_upto_region 1 with (fail)
 refine kZ (G:=fun w0=>Code.wp _ _ _ _ w0) (R:=OsW W xo xd xp xt yo yd yp yt) (UG ..) ?_;intro w1 hw1;have HW:=aA hw1;clear hw1;have c1:=aC HW.out.a 1;have c3:=aC HW.out.a 3;have e1:=aC HW.out.b 1;have e3:=aC HW.out.b 3;have l1:=aF HW.out.a;have l2:=aF HW.out.b;go_wp2_with (first|((with_reducible first|refine Calls.mono (H1.out _) ?_|refine Calls.mono (H2.out _) ?_);rintro e w' ⟨rfl,rfl⟩)|((with_reducible refine lR (fun K hK=>⟨rfl,?_⟩));simp[results,Tryz.results302,go_sem];refine hK _ ?_;clear hK K;refine⟨?_,HW.out.eq⟩;rw[<-HE.out];go_tidy;grind))
theorem sortS_x {w:World} {g cap:Nat} {l:List iU} (h:aO jX 222 4 w g cap l) (hl:l.length<=12) :
  Calls Tryz.prog 301 #[.slice (some ⟨g,0,none⟩) l.length cap,.func (.func 302) #[] #[]] w fun e w'=>e=.returned (.tuple #[])/\aO jX 222 4 w' g cap (uL l)/\Oy [g] w w':=by
 obtain⟨cur,hg,h1,h2,h3,h4⟩:=h;have hfl:=pE jX 4 iJ l
 have hold:HoldsK jX 4 w g 0 l.toArray:=by
  intro j hj;rw[Nat.zero_add];refine⟨?_,aM hg j⟩;have hj':j<l.length*4:=by simpa using hj
  rw[aC hg,<-Array.getElem?_toList,<-List.getElem?_take_of_lt hj',h4,<-hfl,Array.getElem?_toList,getElem!_pos _ j hj,Array.getElem?_eq_getElem hj];rfl
 have hs:l.toArray.size=l.length:=by simp
 have hc:=AnyQ.slices_SortFunc_small Tryz.laySortS 4 Tryz.isAgg222 Tryz.sizeOf222 jX iJ PX cfS 302 #[] g 0 cap l.toArray w (enters_of Tryz.func302 (by kernel_rfl) rfl) (fun _ _ _ _ x y=>pOrdCmp x y _) hold (aF hg) (by simpa using hl) (fun n W hn=>(Tryz.bits_Len n W (by omega) (by omega)).mono fun _ _ ⟨he,hw⟩=>⟨⟨_,he⟩,hw⟩);rw[hs] at hc;refine hc.mono ?_;rintro e w' ⟨rfl,n,os,rfl⟩;have hpm:=nO l;obtain⟨d',hd'⟩:∃ d',Sort.insertionSort (ltOf cfS) l.toArray 0 l.length=d':=⟨_,rfl⟩;have ho:uL l=d'.toList:=by rw[<-hd'];rfl
 rw[ho] at hpm |-;rw[hd'];have hd:d'.size=l.length:=by simpa using hpm.length_eq
 refine⟨rfl,⟨_,qP hg,by rw[jN];omega,by rw[hpm.length_eq];exact h2,h3,?_⟩,qO⟩;have hf2:=pE jX 4 iJ d'.toList;have hle:(flatK jX 4 d').size<=cur.size:=by simp;rw[hd];omega
 have:=jM id (flatK jX 4 d') cur hle;rw[List.map_id,show d'=d'.toList.toArray by simp,hf2] at this;rw[<-this];simp
def smZ:Value:=.agg #[.int .i64 0,.int .i64 0,.int .i64 0,.int .i64 0]
theorem sm_info:(Tryz.prog.info? 222).map (fun i=>(i.zero,i.size,i.bytes))=some (some smZ,4,32):=by kernel_rfl
theorem JW (l:List iU):∀ u∈l.flatMap jX,u.oneCell'=true:=fun u hu=>by
 obtain⟨x,_,hx⟩:=List.mem_flatMap.1 hu;exact PX x u hx
theorem cloneS {w:World} {p:Option Addr} {n cap:Nat} {l:List iU} (hv:aU jX 4 w p n cap l) (h0:0<l.length) (hl:l.length<=1000) :
  Calls Tryz.prog 300 #[.slice p n cap] w fun e w'=>(∃ g cap',e=.returned (.slice (some ⟨g,0,none⟩) l.length cap')/\w.heap.size<=g/\aO jX 222 4 w' g cap' l)/\Oy [] w w':=by
 obtain⟨b,off,hp,hb,_⟩:=hv.cell 0 l[0] (List.getElem?_eq_getElem h0);subst hp;have hln:=hv.len;subst hln;have HV:=aA hv;have q22:∀ w,(binOp .eql 415 (.slice (some ⟨b,off,none⟩) l.length cap) (.slice none 0 0)).run Tryz.prog w=.ok (.bool false) w:=fun w=>Lib.run_eql_slice_nil w _ _ _ _ _ _ _ Tryz.underlying415;clear hv;go_enter Tryz.func300,Tryz.ntmps300
 go_wp2_with (at_builtin;refine aW ?_)
 refine aG (G:=fun w0=>Stop (wpList _ _ _ _ _ w0)) ?_;intro w1 hb1 ho1 hs1;have B1:=aA hb1;have O1:=aA ho1;have hrow:aO jX 222 4 w1 w.heap.size 0 []:=⟨#[],hb1,rfl,Nat.le_refl _,Nat.zero_le _,rfl⟩;have HR:=aA hrow;obtain⟨i0,hi0,hz0,hz1,hz2⟩:=info_parts sm_info;have HI0:=aA hi0;have HZ0:=aA hz0;have HZ1:=aA hz1;have HZ2:=aA hz2;clear hi0 hz0 hz1 hz2;clear hb1 ho1 hrow;refine bH ?_;refine dB rfl _ _ 415 rfl 222 i0 smZ 4 32 Tryz.underlying415 HI0.out HZ0.out HZ1.out HZ2.out rfl (by decide) (.slice (some ⟨w.heap.size,0,none⟩) 0 0) 0 [] rfl (HR.out.owns iJ (Nat.zero_le _)) ⟨b,off,none⟩ l.length cap (l.flatMap jX) rfl (dK jX 4 iJ l) (fun j u hj=>(HV.out.kept O1.out).flat iJ hj) (JW l) (by simp[maxLen];omega) (by omega) h0 ?_;intro g' cap' w' hown' ho' hg';rw[Nat.zero_add,List.nil_append] at hown'
 have hge:w.heap.size<=g':=by
  rcases hg' with hg'|hg'
  ·simp only[Value.ownBlock,Option.some.injEq] at hg';omega
  ·omega
 have R2:=aA (aO.kN hown' rfl);have O2:=aA (O1.out.trans (S:=[]) ho' (fun x hx=>.inr (by simp[Value.ownBlock] at hx;omega)));have HGE:=aA hge;clear hown' ho' hg' hge;rw[show 0+l.length=l.length from Nat.zero_add _];go_wp2;go_ret
 exact⟨⟨g',cap',rfl,HGE.out,R2.out⟩,O2.out⟩
end
section
open Go.RowKit Go.Sort
abbrev FlF (w:World) (b:Nat) (tol n:Int) (sh:Bool) (la:Int):Prop:=b<w.heap.size/\(∀ o,w.frozen? ⟨b,o,none⟩=false)/\w.cell? ⟨b,0,none⟩=some (.int .i64 tol)/\w.cell? ⟨b,33,none⟩=some (.int .i64 n)/\w.cell? ⟨b,34,none⟩=some (.bool sh)/\w.cell? ⟨b,35,none⟩=some (.int .i64 la)
theorem yH {w:World} {b:Nat} {tol n la:Int} {sh:Bool} {L:List Value} {t:TypeId} (h:w.heap[b]? = some (.cells (jU tol L n sh la).toArray t (0,0))) (hL:L.length=32):FlF w b tol n sh la:=by
 refine⟨aF h,aM h,by rw[aC h];rfl,by rw[aC h,List.getElem?_toArray];exact iA hL,?_,?_⟩
 ·rw[aC h,List.getElem?_toArray,jU,show 34=33+1 from rfl,List.getElem?_cons_succ,List.getElem?_append_right (by omega),hL];rfl
 ·rw[aC h,List.getElem?_toArray,jU,show 35=34+1 from rfl,List.getElem?_cons_succ,List.getElem?_append_right (by omega),hL];rfl
abbrev SmF (w:World) (b o:Nat) (s:iU):Prop:=w.cell? ⟨b,o,none⟩=some (.int .i64 s.off)/\w.cell? ⟨b,o+1,none⟩=some (.int .i64 s.dly)/\w.cell? ⟨b,o+2,none⟩=some (.int .i64 s.dsp)/\w.cell? ⟨b,o+3,none⟩=some (.int .i64 s.tat)
theorem flS {w:World} {b:Nat} {tol n la:Int} {sh:Bool} {L:List Value} {t:TypeId} {l:List iU} (h:w.heap[b]? = some (.cells (jU tol L n sh la).toArray t (0,0))) (hL:L.length=32) (hT:L.take (l.length*4)=l.flatMap jX) (h8:l.length<=8) {k:Nat} (hk:k<l.length):SmF w b (1+k*4) l[k]:=by
 have g:∀ j,j<4->w.cell? ⟨b,1+k*4+j,none⟩=(jX l[k])[j]? :=fun j hj=>by
  rw[aC h,List.getElem?_toArray,show 1+k*4+j=1+(k*4+j) by omega,xK hL (by omega)];exact fl_at hT hk j hj
 exact⟨g 0 (by omega),g 1 (by omega),g 2 (by omega),g 3 (by omega)⟩
theorem fl_row {w:World} {b:Nat} {tol n la:Int} {sh:Bool} {L:List Value} {t:TypeId} {l:List iU} (h:w.heap[b]? = some (.cells (jU tol L n sh la).toArray t (0,0))) (hL:L.length=32) (hT:L.take (l.length*4)=l.flatMap jX) (h8:l.length<=8):aU jX 4 w (some ⟨b,1,none⟩) l.length 8 l:=by
 refine⟨rfl,h8,by decide,fun h=>(by cases h),fun i x hx=>⟨b,1,rfl,aF h,fun j v hv=>?_⟩⟩;have hi:=(List.getElem?_eq_some_iff.1 hx).1;have hj:j<4:=by have:=(List.getElem?_eq_some_iff.1 hv).1;simpa [iJ] using this
 have hx':l[i]=x:=(List.getElem?_eq_some_iff.1 hx).2;rw[aC h,List.getElem?_toArray,xK hL (by omega),fl_at hT hi j hj,hx',hv]
def erlS (l:List iU) (now:Int):Bool:=match l.getLast? with
 | some x=>decide (now<x.tat)
 | none=>false
theorem pEarly {w:World} {b:Nat} {f:Fl} (hf:jW w b f) (now:Int)  :
  Calls Tryz.prog 297 #[.pointer (some ⟨b,0,none⟩),.int .i64 now] w fun e w'=>e=.returned (.bool (erlS f.l now))/\Oy [] w w':=by
 obtain⟨L,sh,la,hL,hI,hT,h8,hF0⟩:=hf;obtain⟨tol,l⟩:=f;dsimp only at hT h8 hF0 |-;have hF:w.heap[b]? = some (.cells (jU tol L l.length sh la).toArray 225 (0,0)):=hF0;clear hF0 hI;obtain⟨n,hn⟩:∃ n,l.length=n:=⟨_,rfl⟩;rcases n with _|n
 ·obtain rfl:l=[]:=List.eq_nil_of_length_eq_zero hn
  have HX:=aA (fun w' (o:Oy [] w w')=>yH (o.got hF (by simp)) hL);simp only[List.length_nil] at HX;clear hF hL hT h8 hn;have m:=bJ w [];have k:=m.zK;have c:=HX.out w (aR [] w);go_enter Tryz.func297,Tryz.ntmps297
  go_wp2_with (first|((with_reducible refine iY (id:=1) [0,1,2,3,4,5,6,7,8,9,10,11,12,13,14,15,16,17,18,19,20] [] ?_);simp only[bV];(repeat' (first|go_big_quiet_step (fail)|(refine wpQuiet_step (fun K hK=>?_);go_simp;(first|(refine hK _ ?_;clear hK K)|(split<;>(refine hK _ ?_;clear hK K))))));all_goals (refine wpQuiet_nil ?_;clear k m c;intro w m k;have c:=HX.out w m.zO))|((with_reducible refine wU ?_);clear k m c;intro w m k;have c:=HX.out w m.zO)|((with_reducible refine lF (fun w _=>⟨rfl,?_⟩));simp[results,Tryz.results297,go_sem]))
  all_goals rfl
 ·have hlt:n<l.length:=by omega
  have HX:=aA (fun w' (o:Oy [] w w')=>And.intro (yH (o.got hF (by simp)) hL) (flS (o.got hF (by simp)) hL hT h8 hlt))
  have he:erlS l now=decide (now<l[n].tat):=by
   unfold erlS;rw[List.getLast?_eq_getElem?,hn,show n+1-1=n from rfl,List.getElem?_eq_getElem hlt]
  rw[he];rw[hn] at HX;generalize l[n]=x at HX;obtain⟨x1,x2,x3,x4⟩:=x;dsimp only at HX |-;have r1:wrap .i64 ((n:Int)+1-1)=(n:Int):=by rw[wrap_i64];omega
  have r2:wrap .i64 ((n:Int))=(n:Int):=by rw[wrap_i64];omega
  have r3:(0:Int)<(n:Int)+1:=by omega
  have r4:(n:Int)<8:=by omega
  have r5:n<8:=by omega
  clear hF hL hT h8 hn hlt he;have m:=bJ w [];have k:=m.zK;have c:=HX.out w (aR [] w);go_enter Tryz.func297,Tryz.ntmps297
  go_wp2_with (first|((with_reducible refine iY (id:=1) [0,1,2,3,4,5,6,7,8,9,10,11,12,13,14,15,16,17,18,19,20] [] ?_);simp only[bV];(repeat' (first|go_big_quiet_step (fail)|(refine wpQuiet_step (fun K hK=>?_);go_simp;(first|(refine hK _ ?_;clear hK K)|(split<;>(refine hK _ ?_;clear hK K))))));all_goals (refine wpQuiet_nil ?_;clear k m c;intro w m k;have c:=HX.out w m.zO))|((with_reducible refine wU ?_);clear k m c;intro w m k;have c:=HX.out w m.zO)|((with_reducible refine lF (fun w _=>⟨rfl,?_⟩));simp[results,Tryz.results297,go_sem]))
def OsX (w0:World) (l:List iU) (e:Ending) (w:World):Prop:=∃ g cap,e=.returned (.slice (some ⟨g,0,none⟩) l.length cap)/\w0.heap.size<=g/\aO jX 222 4 w g cap (uL l)
theorem KC {w:World} {b:Nat} {f:Fl} (hf:jW w b f) (h0:0<f.l.length) :
  Calls Tryz.prog 277 #[.pointer (some ⟨b,0,none⟩)] w fun e w'=>OsX w f.l e w'/\Oy [] w w':=by
 obtain⟨L,sh,la,hL,hI,hT,h8,hF0⟩:=hf;obtain⟨tol,l⟩:=f;dsimp only at hT h8 hF0 |-;have hF:w.heap[b]? = some (.cells (jU tol L l.length sh la).toArray 225 (0,0)):=hF0;clear hF0 hI;have HX:=aA (fun w' (o:Oy [] w w')=>yH (o.got hF (by simp)) hL);have HC:=aA (fun w' (o:Oy [] w w')=>cloneS (fl_row (o.got hF (by simp)) hL hT h8) h0 (by omega));have r1:(l.length:Int)<=8:=by omega
 have r2:(l.length:Int).toNat=l.length:=by simp
 have hl:=(nO l).length_eq;clear hF hL hT;obtain⟨wo,rfl⟩:∃ wo:World,wo=w:=⟨_,rfl⟩;have m:=bJ wo [];have k:=m.zK;have c:=HX.out wo (aR [] wo);go_enter Tryz.func277,Tryz.ntmps277
 go_wp2_with ((with_reducible refine iY (id:=1) [0,1,2,3,4,5,6,7] [8,9] ?_);simp only[bV];(repeat' (first|go_big_quiet_step (fail)|(refine wpQuiet_step (fun K hK=>?_);go_simp;(first|(refine hK _ ?_;clear hK K)|(split<;>(refine hK _ ?_;clear hK K))))));all_goals (refine wpQuiet_nil ?_;clear k m c;intro w m k;have c:=HX.out w m.zO))
 refine (HC.out _ m.zO).mono ?_;rintro e w2 ⟨⟨g,cap,rfl,hge,hr⟩,ho2⟩;have O2:=aA (m.zO.aB ho2);have HG:Hid (wo.heap.size<=g):=aA (Nat.le_trans m.zO.size hge);have HS:=aA (sortS_x hr (by omega));clear k m c hge hr ho2;go_wp2_with fail
 refine HS.out.mono ?_;rintro e w3 ⟨rfl,hr,ho3⟩;have O3:=aA (O2.out.trans ho3 (fun x hx=>.inr (by rw[List.mem_singleton] at hx;rw[hx];exact HG.out)));have HR:=aA hr;clear ho3 hr;go_wp2;go_ret
 exact⟨⟨g,cap,rfl,HG.out,HR.out⟩,O3.out⟩
theorem pFDist (a c:iU) (h0: -9007199254740992<=a.off) (h1:a.off<=9007199254740992) (h2: -9007199254740992<=c.off) (h3:c.off<=9007199254740992) (w:World) :
  Calls Tryz.prog 278 #[wV a,wV c] w fun e w'=>e=.returned (.int .i64 (a.off-c.off).natAbs)/\Oy [] w w':=by
 obtain⟨a1,a2,a3,a4⟩:=a;obtain⟨c1,c2,c3,c4⟩:=c;unfold wV;dsimp only at h0 h1 h2 h3 |-;have r1:wrap .i64 (a1-c1)=a1-c1:=by rw[wrap_i64];omega
 have HA:=aA (fun w=>jH (fabs (a1-c1) w (by omega) (by omega)));clear h0 h1 h2 h3;have m:=bJ w [];have k:=m.zK;go_enter Tryz.func278,Tryz.ntmps278
 go_wp2_with (first|((with_reducible first|refine cM (HA.out _) ?_|refine wU ?_);clear k m;intro w m k)|((with_reducible refine lF (fun w _=>⟨rfl,?_⟩));simp[results,Tryz.results278,go_sem]))
theorem aU.atS {w:World} {p:Option Addr} {n cap:Nat} {l:List iU} (hv:aU jX 4 w p n cap l) (h0:0<l.length):∃ b off,p=some ⟨b,off,none⟩/\b<w.heap.size/\∀ k (hk:k<l.length) w',Oy [] w w'->b<w'.heap.size/\SmF w' b (off+k*4) l[k]:=by
 obtain⟨b,off,hp,hb,_⟩:=hv.cell 0 l[0] (List.getElem?_eq_getElem h0);refine⟨b,off,hp,hb,fun k hk w' ho=>?_⟩;obtain⟨b',off',hp',hb',h⟩:=hv.cell k l[k] (List.getElem?_eq_getElem hk);obtain⟨rfl,rfl⟩:b=b'/\off=off':=by rw[hp] at hp';simpa using hp'
 have g:∀ j v,(jX l[k])[j]? = some v->w'.cell? ⟨b,off+k*4+j,none⟩=some v:=fun j v hv=>by
  rw[ho.cell hb (by simp),Nat.add_assoc];exact h j v hv
 exact⟨Nat.lt_of_lt_of_le hb ho.size,g 0 _ rfl,g 1 _ rfl,g 2 _ rfl,g 3 _ rfl⟩
def EO (y:Int) (l:List iU):Nat:=(l.map (fun s=>yB s.off y)).sum
theorem MR (y:Int):∀ l:List iU,EO y l<=l.length*1152921504606846976
 | []=>by simp[EO]
 | c::l=>by
  have h1:=MR y l;have h2:=wT c.off y;simp only[EO,List.map_cons,List.sum_cons,List.length_cons] at *;omega
theorem sqS_bd2 {l:List iU} (h0:0<l.length) (j:Nat):EO l[0].off (l.take j)<=(j-1)*1152921504606846976:=by
 cases l with
 | nil=>simp at h0
 | cons c r =>
  cases j with
  | zero=>simp[EO]
  | succ j =>
   have h:=MR c.off (r.take j);have hl:(r.take j).length<=j:=by rw[List.length_take];omega
   have hm:=Nat.mul_le_mul_right 1152921504606846976 hl;have h2:EO c.off ((c::r).take (j+1))=EO c.off (r.take j):=by simp[EO,yB]
   rw[List.getElem_cons_zero,h2,Nat.add_sub_cancel];exact Nat.le_trans h hm
theorem WL (y:Int) (l:List iU) (c:iU):EO y (l ++ [c])=EO y l+yB c.off y:=by simp[EO]
def jtS (l:List iU):Int:=if l.length<2 then 0 else (UQ (EO ((uL l).headD default).off (uL l) / (l.length-1)):Nat)
def SjI (w:World) (l:List iU) (y:Int) (vs vi:Value) (wr:World):Prop:=∃ k:Nat,k<=l.length/\vi=.int .i64 k/\vs=.int .i64 (EO y (l.take k))/\Oy [] w wr
theorem Y6 {w:World} {b:Nat} {f:Fl} (hf:jW w b f) (hok:∀ s∈f.l,gJ s=0)  :
  Calls Tryz.prog 167 #[.pointer (some ⟨b,0,none⟩)] w fun e w'=>e=.returned (.int .i64 (jtS f.l))/\Oy [] w w':=by
 have HO:=aA (fun h w' (o:Oy [] w w')=>KC (hf.kept o (by simp)) h);have hpm:=nO f.l;obtain⟨L,sh,la,hL,hI,hT,h8,hF0⟩:=hf;obtain⟨tol,l⟩:=f;dsimp only at hT h8 hF0 |-;have hF:w.heap[b]? = some (.cells (jU tol L l.length sh la).toArray 225 (0,0)):=hF0;clear hF0 hI;dsimp only at hok HO hpm;have HX:=aA (fun w' (o:Oy [] w w')=>yH (o.got hF (by simp)) hL);obtain⟨res,HE⟩:∃ r,Hid (jtS l=r):=⟨_,aA rfl⟩;rw[HE.out];unfold jtS at HE;clear hF hL hT;by_cases h2:l.length<2
 ·have q1:decide ((l.length:Int)<2)=true:=by simp;omega
  rw[if_pos h2] at HE;obtain rfl:=HE.out;have m:=bJ w [];have k:=m.zK;have c:=HX.out w (aR [] w);go_enter Tryz.func167,Tryz.ntmps167
  go_wp2_with (first|((with_reducible refine iY (id:=7) [0,1,2,3,4,5,6] [] ?_);simp only[bV];(repeat' (first|go_big_quiet_step (fail)|(refine wpQuiet_step (fun K hK=>?_);go_simp;(first|(refine hK _ ?_;clear hK K)|(split<;>(refine hK _ ?_;clear hK K))))));all_goals (refine wpQuiet_nil ?_;clear k m c;intro w m k;have c:=HX.out w m.zO))|((with_reducible refine wU ?_);clear k m c;intro w m k;have c:=HX.out w m.zO)|((with_reducible refine lF (fun w _=>⟨rfl,?_⟩));simp[results,Tryz.results167,go_sem]))
 ·have q1:decide ((l.length:Int)<2)=false:=by simp;omega
  rw[if_neg h2] at HE;have HL:=aA (nO l).length_eq;have HP:=aA hpm;obtain⟨wo,rfl⟩:∃ wo:World,wo=w:=⟨_,rfl⟩;have m:=bJ wo [];have k:=m.zK;have c:=HX.out wo (aR [] wo);go_enter Tryz.func167,Tryz.ntmps167
  go_wp2_with ((with_reducible refine wU ?_);clear k m c;intro w m k;have c:=HX.out w m.zO)
  refine (HO.out (by omega) _ m.zO).mono ?_;rintro e w2 ⟨⟨g,cap,rfl,hge,hr⟩,ho2⟩;have O2:=aA (m.zO.aB ho2);have hol:∀ s∈uL l,gJ s=0:=fun s hs=>hok s (HP.out.subset hs);generalize uL l=l2 at hr HE HL hol;have hln:=HL.out;rw[<-hln] at HE |-;obtain⟨b2,off,hp,hb,HC⟩:=(hr.dI iJ rfl).atS (by omega);obtain⟨rfl,rfl⟩:g=b2/\0=off:=by simpa using hp
  have HX:=aA HC;have HK:=aA hol;have h02:0<l2.length:=by omega
  have h22:2<=l2.length:=by omega
  have h28:l2.length<=8:=by omega
  have he:l2.headD default=l2[0]'h02:=by cases l2 with|nil=>simp at h02|cons=>rfl
  rw[he] at HE;clear k m c HC hr ho2 hge hb hp hpm hok hol h2 h8 q1 HL HP HO hln he;go_wp2_with fail
  go_loopw [4,23] (fun vs vi wr=>SjI w2 l2 l2[0].off vs vi wr) (fun _ vi _=>l2.length-(intOf vi).toNat)
  case atStart=>exact⟨0,Nat.zero_le _,rfl,rfl,aR _ _⟩
  case round =>
   obtain⟨j,hk,rfl,rfl,ho⟩:=hrel;have OO:=aA ho;have hsb:=MR l2[0].off (l2.take j);have hsc:=sqS_bd2 h02 j;rw[List.length_take] at hsb;by_cases hlt:j<l2.length
   ·have HX:=aA (fun w' (o:Oy [] wr w')=>And.intro (HX.out j hlt w' (OO.out.aB o)) (HX.out 0 (by omega) w' (OO.out.aB o)))
    simp only[Nat.zero_mul,Nat.zero_add] at HX;have hz:=(rW.1 (HK.out _ (List.getElem_mem hlt))).1;have hy:=(rW.1 (HK.out _ (List.getElem_mem (show 0<l2.length by omega)))).1;have hq:=wT l2[j].off l2[0].off;have hm:=NQ l2[j].off l2[0].off;have HA:=aA (pFDist l2[j] l2[0] (by omega) (by omega) (by omega) (by omega));have HS:=aA (show EO l2[0].off (l2.take (j+1))=EO l2[0].off (l2.take j)+yB l2[j].off l2[0].off by rw[eO l2 hlt,WL]);generalize l2[0]=y at hy hq hm HS HX HA hsb hsc |-;generalize l2[j]=z at hz hq hm HS HX HA |-;obtain⟨y1,y2,y3,y4⟩:=y;obtain⟨z1,z2,z3,z4⟩:=z;unfold wV at HA;dsimp only at hq hm HS HX HA hsb hsc |-;have r2:wrap .i64 (yB z1 y1:Int)=(yB z1 y1:Int):=by rw[wrap_i64];omega
    have r4:wrap .i64 ((EO y1 (l2.take j):Int)+(yB z1 y1:Int))=((EO y1 (l2.take j)+yB z1 y1:Nat):Int):=by rw[wrap_i64];omega
    rw[<-HS.out] at r4;generalize hs2:EO y1 (l2.take (j+1))=s2 at HS r4;have H2:=aA hs2;clear hs2;generalize EO y1 (l2.take j)=s1 at HS r4 hsb hsc |-;generalize yB z1 y1=q at r2 r4 hm HS hq;generalize (z1-y1).natAbs=d at HA hm;clear hsb hsc hq hy hz;have m:=bJ wr [];have k:=m.zK;have c:=HX.out wr (aR [] wr);go_wp2_with (first|((with_reducible first|refine cM (HA.out _) ?_|refine wU ?_);clear k m c;intro w m k;have c:=HX.out w m.zO)|((with_reducible refine iY (id:=7) [0,1,2,3,4,5,6] [] ?_);simp only[bV];(repeat' (first|go_big_quiet_step (with_reducible first|exact gX (HA.out _))|(refine wpQuiet_step (fun K hK=>?_);go_simp;(first|(refine hK _ ?_;clear hK K)|(split<;>(refine hK _ ?_;clear hK K))))));all_goals (refine wpQuiet_nil ?_;clear k m c;intro w m k;have c:=HX.out w m.zO))|(go_roundw;(case rel=>exact⟨j+1,by omega,by go_num,by rw[H2.out],OO.out.aB gO⟩);(case measure=>first|(simp[intOf];done)|(simp[intOf];omega))))
   ·obtain rfl:j=l2.length:=by omega
    rw[List.take_length] at hsb;rw[List.take_length];obtain⟨dv,hdv⟩:∃ dv,l2.length-1=dv:=⟨_,rfl⟩;have hdi:(l2.length:Int)-1=(dv:Int):=by omega
    have hd0:((dv:Int) == 0)=false:=by rw[beq_eq_false_iff_ne];omega
    have hd1:¬ (dv:Int)=0:=by omega
    have hs0:=WO hsb hdv h22;rw[hdv] at HE;generalize EO l2[0].off l2=s at hs0 hsb HE |-;have e0:(s:Int).tdiv (dv:Int)=((s / dv:Nat):Int):=by rw[Int.tdiv_eq_ediv_of_nonneg (by omega)];simp
    have e1:(s:Int) / (dv:Int)=((s / dv:Nat):Int):=by simp
    have HS:=aA (fun w=>jH (fsqrt (s / dv) w (by omega)));generalize s / dv=q at HS e0 e1 HE hs0;have e2:wrap .i64 (q:Int)=(q:Int):=by rw[wrap_i64];omega
    obtain rfl:=HE.out;clear hs0 hsb hsc;have m:=bJ wr [];have k:=m.zK;go_wp2_with (first|((with_reducible first|refine cM (HS.out _) ?_|refine wU ?_);clear k m;intro w m k)|((with_reducible refine lE (fun w o g k K hK=>⟨rfl,?_⟩));simp[results,Tryz.results167,go_sem];refine hK _ ?_;exact⟨rfl,O2.out.aB (OO.out.aB o)⟩))
def DR (f:Fl) (now:Int):iU × Int:=if f.l.length=0 then (vG,14) else if erlS f.l now=true then (vG,12) else vH ((uL f.l).headD default) now f.tol
theorem WV {s:iU} {now tol:Int} (h:(vH s now tol).2≠0):(vH s now tol).1=vG:=by
 unfold vH at h |-;split
 ·split
  ·split
   ·rfl
   ·split
    ·rename_i h1 h2 h3 h4
     rw[if_pos h1,if_pos h2,if_neg h3,if_pos h4] at h;exact absurd rfl h
    ·rfl
  ·rfl
 ·rfl
theorem FD {α:Type} {l:List α} (h:0<l.length) (d:α):l.headD d=l[0]:=by
 cases l with
 | nil=>simp at h
 | cons=>rfl
theorem flc_34 {tol n la:Int} {sh x:Bool} {L:List Value} (h:L.length=32):(jU tol L n sh la).set 34 (.bool x)=jU tol L n x la:=by
 rw[jU,show 34=33+1 from rfl,List.set_cons_succ,List.set_append_right _ _ (by omega),h];rfl
theorem flc_35 {tol n la x:Int} {sh:Bool} {L:List Value} (h:L.length=32):(jU tol L n sh la).set 35 (.int .i64 x)=jU tol L n sh x:=by
 rw[jU,show 35=34+1 from rfl,List.set_cons_succ,List.set_append_right _ _ (by omega),h];rfl
theorem rJ {w:World} {b:Nat} {tol n la:Int} {sh x:Bool} {L:List Value} {t:TypeId} (h:w.heap[b]? = some (.cells ((jU tol L n sh la).set 34 (.bool x)).toArray t (0,0))) (hL:L.length=32):FlF w b tol n x la:=yH (by rwa [flc_34 hL] at h) hL
theorem pBest {w:World} {b:Nat} {f:Fl} (hf:jW w b f) (now:Int) :
  Calls Tryz.prog 275 #[.pointer (some ⟨b,0,none⟩),.int .i64 now] w fun e w'=>(∃ fr:Bool,e=.returned (.tuple #[wV (DR f now).1,.bool fr,.int .i64 (DR f now).2]))/\jW w' b f/\Oy [b] w w':=by
 have HEA:=aA (fun w' (h:jW w' b f)=>pEarly h now);have HO:=aA (fun w' (h:jW w' b f) h0=>KC h h0);have HG:=aA (pSGrow ((uL f.l).headD default) now f.tol);have HN:=aA (WV (s:=(uL f.l).headD default) (now:=now) (tol:=f.tol));obtain⟨res,HE⟩:∃ r,Hid (DR f now=r):=⟨_,aA rfl⟩;rw[HE.out];unfold DR at HE;obtain⟨L,sh,la,hL,hI,hT,h8,hF0⟩:=hf;obtain⟨tol,l⟩:=f;dsimp only at hT h8 hF0 |-;have hF:w.heap[b]? = some (.cells (jU tol L l.length sh la).toArray 225 (0,0)):=hF0;clear hF0;dsimp only at HEA HO HG HE HN;have HFL:=aA (fun (w':World) (h:w'.heap[b]? = some (.cells (jU tol L l.length sh la).toArray 225 (0,0)))=>FL hL hI hT h8 h);have HFN:=aA (fun (w':World) (x:Bool) (y:Int) (h:w'.heap[b]? = some (.cells (((jU tol L l.length sh la).set 34 (.bool x)).set 35 (.int .i64 y)).toArray 225 (0,0)))=>FL (w:=w') (tol:=tol) (L:=L) (l:=l) (sh:=x) (la:=y) hL hI hT h8 (by rwa [flc_34 hL,flc_35 hL] at h));have HL2:=aA (nO l).length_eq;by_cases h0:l.length=0
 ·have q0:((l.length:Int) == 0)=true:=by rw[h0];rfl
  rw[if_pos h0] at HE;obtain rfl:=HE.out;have m:=kV hF;have k:=m.zK;have c:=yH hF hL;clear hF;go_enter Tryz.func275,Tryz.ntmps275
  go_wp2_with (first|((with_reducible refine wU ?_);clear k m;(try clear c);intro w m k;(first|have c:=yH (gB (w:=w) (b:=b)) hL|have c:=rJ (gB (w:=w) (b:=b)) hL|skip))|((with_reducible refine lE (fun w o g k K hK=>⟨rfl,?_⟩));simp[results,Tryz.results275,go_sem,k];refine hK _ ?_;clear hK K k;skip;(first|exact⟨⟨_,rfl⟩,HFL.out w (Has.h w g),o⟩|exact⟨⟨_,rfl⟩,HFN.out w _ _ (Has.h w g),o⟩)))
 ·have q0:((l.length:Int) == 0)=false:=by rw[beq_eq_false_iff_ne];omega
  rw[if_neg h0] at HE;have h00:0<l.length:=by omega
  have HO:=aA (fun w' (h:w'.heap[b]? = some (.cells (jU tol L l.length sh la).toArray 225 (0,0)))=>(HO.out w' (HFL.out w' h) h00).mono (R':=fun e w''=>(∃ x:Nat × Nat,e=.returned (.slice (some ⟨x.1,0,none⟩) l.length x.2)/\(x.1<w''.heap.size/\SmF w'' x.1 0 ((uL l).headD default)))/\Oy [] w' w'') (by
   rintro e w2 ⟨⟨g,cp,rfl,hge,hr⟩,ho⟩;refine⟨⟨(g,cp),rfl,?_⟩,ho⟩;have hl2:=HL2.out;obtain⟨b2,off,hp,hb,HC⟩:=(hr.dI iJ rfl).atS (by omega);obtain⟨rfl,rfl⟩:g=b2/\0=off:=by simpa using hp
   have c:=HC 0 (by omega) w2 (aR [] w2);rw[Nat.zero_mul,Nat.add_zero] at c;rw[FD (show 0<(uL l).length by omega)];exact c))
  have HEA:=aA (fun w' (h:w'.heap[b]? = some (.cells (jU tol L l.length sh la).toArray 225 (0,0)))=>HEA.out w' (HFL.out w' h));have hl1:(0:Int)<(l.length:Int):=by omega
  generalize (uL l).headD default=s0 at HG HO HE HN;generalize erlS l now=er at HEA HE;generalize vH s0 now tol=gs at HG HE HN;obtain⟨g1,ge⟩:=gs;obtain⟨s1,s2,s3,s4⟩:=s0;unfold wV at HG |-;dsimp only at HG HO HE HN |-
  cases er
  rotate_left
  focus
   obtain rfl:res=(vG,12):=by have:=HE.out;simpa using this.symm
   clear HE HN HG;have m:=kV hF;have k:=m.zK;have c:=yH hF hL;clear hF hI hT h8
  rotate_left
  focus
   obtain rfl:res=(g1,ge):=by have:=HE.out;simpa using this.symm
   clear HE;have m:=kV hF;have k:=m.zK;have c:=yH hF hL;clear hF hI hT h8;by_cases hge:ge=0
   rotate_left
   focus
    have q1:(ge != 0)=true:=by simpa using hge
    obtain rfl:=HN.out hge;clear HN hge
   rotate_left
   focus
    subst hge;clear HN;obtain⟨g11,g12,g13,g14⟩:=g1;dsimp only at HG |-
   rotate_left
  rotate_left 2
  all_goals
   go_enter Tryz.func275,Tryz.ntmps275
   go_wp2_with (first|((with_reducible first|refine cU ?_|refine cM (HEA.out _ gB) ?_|refine wU ?_);clear k m;(try clear c);intro w m k;(first|have c:=yH (gB (w:=w) (b:=b)) hL|have c:=rJ (gB (w:=w) (b:=b)) hL|skip))|((with_reducible refine cX (HO.out w gB) ?_);clear k m;(try clear c);intro w x c2 o m k;have c:=yH (gB (w:=w) (b:=b)) hL;obtain⟨g,cp⟩:=x;dsimp only at c2 |-;clear o)|((with_reducible refine rA (id:=8) [0,1,2,3,4,5,6,7,8] [9] 10 [11,12] (by kernel_rfl) (by kernel_rfl) ?_);simp only[bV];(repeat (first|(refine aQ (fun K hK=>?_);go_simp;refine hK _ ?_;clear hK K)|(refine cG (by kernel_rfl) ⟨_,_,_,fun w=>by go_simp,fun w' o=>HG.out w',?_⟩)));refine aS ?_;(repeat (refine aJ (fun K hK=>?_);go_simp;refine hK _ ?_;clear hK K));refine aK ?_;clear k m;intro w o m k;refine aD rfl ?_;go_wp2;simp only[bA];refine⟨o.alloc _,tW ?_⟩;clear o;clear k m;(try clear c);intro w m k;(first|have c:=yH (gB (w:=w) (b:=b)) hL|have c:=rJ (gB (w:=w) (b:=b)) hL|skip);unfold aV;refine aD rfl ?_;go_wp2;simp only[bA];refine tW ?_;clear k m;(try clear c);intro w m k;(first|have c:=yH (gB (w:=w) (b:=b)) hL|have c:=rJ (gB (w:=w) (b:=b)) hL|skip);unfold aV;refine aD rfl ?_;go_wp2;simp only[bA];refine tW ?_;clear k m;(try clear c);intro w m k;(first|have c:=yH (gB (w:=w) (b:=b)) hL|have c:=rJ (gB (w:=w) (b:=b)) hL|skip);unfold aV)|((with_reducible refine iY (id:=11) [0,1,2,3,4,5,6,7,8,9,10,11,12,13,14] [] ?_);simp only[bV];(repeat' (first|go_big_quiet_step (fail)|(refine wpQuiet_step (fun K hK=>?_);go_simp;(first|(refine hK _ ?_;clear hK K)|(split<;>(refine hK _ ?_;clear hK K))))));all_goals (refine wpQuiet_nil ?_;clear k m;(try clear c);intro w m k;(first|have c:=yH (gB (w:=w) (b:=b)) hL|have c:=rJ (gB (w:=w) (b:=b)) hL|skip)))|((with_reducible refine rX (id:=13) [0,1,2,4,5] [3,6,9] 5 (by kernel_rfl) (by kernel_rfl) ?_);simp only[bV];(repeat (refine aJ (fun K hK=>?_);go_simp;refine hK _ ?_;clear hK K));refine aK ?_;clear k m;(try clear c);intro w m k;(first|have c:=yH (gB (w:=w) (b:=b)) hL|have c:=rJ (gB (w:=w) (b:=b)) hL|skip);refine xN [3,6] (by kernel_rfl) ?_;simp only[List.mem_cons,List.not_mem_nil,or_false,forall_eq_or_imp,forall_eq];refine⟨?_,?_⟩;(focus (refine aD rfl ?_;go_wp2;simp only[bA];refine⟨aT (by kernel_rfl),tW ?_⟩;clear k m;(try clear c);intro w m k;(first|have c:=yH (gB (w:=w) (b:=b)) hL|have c:=rJ (gB (w:=w) (b:=b)) hL|skip);refine xN [6] (by kernel_rfl) ?_;simp only[eD];refine aD rfl ?_;go_wp2;simp only[bA];refine⟨aT (by kernel_rfl),tW ?_⟩;clear k m;(try clear c);intro w m k;(first|have c:=yH (gB (w:=w) (b:=b)) hL|have c:=rJ (gB (w:=w) (b:=b)) hL|skip);refine xN [7] (by kernel_rfl) ?_;simp only[eD];refine aD rfl ?_;go_wp2;simp only[bA];refine⟨aT (by kernel_rfl),tW ?_⟩;clear k m;(try clear c);intro w m k;(first|have c:=yH (gB (w:=w) (b:=b)) hL|have c:=rJ (gB (w:=w) (b:=b)) hL|skip);refine xN [8] (by kernel_rfl) ?_;simp only[eD];refine aD rfl ?_;go_wp2;simp only[bA];refine⟨aT (by kernel_rfl),tW ?_⟩;clear k m;(try clear c);intro w m k;(first|have c:=yH (gB (w:=w) (b:=b)) hL|have c:=rJ (gB (w:=w) (b:=b)) hL|skip);refine xN [9] (by kernel_rfl) ?_;simp only[eD];refine aD rfl ?_;go_wp2;simp only[bA];refine⟨aT (by kernel_rfl),tW ?_⟩;clear k m;(try clear c);intro w m k;(first|have c:=yH (gB (w:=w) (b:=b)) hL|have c:=rJ (gB (w:=w) (b:=b)) hL|skip);unfold SN));rotate_left 1;(focus (refine aD rfl ?_;go_wp2;simp only[bA];refine⟨aT (by kernel_rfl),tW ?_⟩;clear k m;(try clear c);intro w m k;(first|have c:=yH (gB (w:=w) (b:=b)) hL|have c:=rJ (gB (w:=w) (b:=b)) hL|skip);refine xN [3] (by kernel_rfl) ?_;simp only[eD];refine aD rfl ?_;go_wp2;simp only[bA];refine⟨aT (by kernel_rfl),tW ?_⟩;clear k m;(try clear c);intro w m k;(first|have c:=yH (gB (w:=w) (b:=b)) hL|have c:=rJ (gB (w:=w) (b:=b)) hL|skip);refine xN [7] (by kernel_rfl) ?_;simp only[eD];refine aD rfl ?_;go_wp2;simp only[bA];refine⟨aT (by kernel_rfl),tW ?_⟩;clear k m;(try clear c);intro w m k;(first|have c:=yH (gB (w:=w) (b:=b)) hL|have c:=rJ (gB (w:=w) (b:=b)) hL|skip);refine xN [8] (by kernel_rfl) ?_;simp only[eD];refine aD rfl ?_;go_wp2;simp only[bA];refine⟨aT (by kernel_rfl),tW ?_⟩;clear k m;(try clear c);intro w m k;(first|have c:=yH (gB (w:=w) (b:=b)) hL|have c:=rJ (gB (w:=w) (b:=b)) hL|skip);refine xN [9] (by kernel_rfl) ?_;simp only[eD];refine aD rfl ?_;go_wp2;simp only[bA];refine⟨aT (by kernel_rfl),tW ?_⟩;clear k m;(try clear c);intro w m k;(first|have c:=yH (gB (w:=w) (b:=b)) hL|have c:=rJ (gB (w:=w) (b:=b)) hL|skip);unfold SN));rotate_left 1)|((with_reducible refine lE (fun w o g k K hK=>⟨rfl,?_⟩));simp[results,Tryz.results275,go_sem,k];refine hK _ ?_;clear hK K k;skip;(first|exact⟨⟨_,rfl⟩,HFL.out w (Has.h w g),o⟩|exact⟨⟨_,rfl⟩,HFN.out w _ _ (Has.h w g),o⟩)))
end
section
open Go.RowKit
theorem YP (raw time ppb steps r:Int) (hr:raw<=r) (h1:r-raw<=9007199254740992) (h2: -500000<=ppb) (h3:ppb<=500000) (h4: -4503599627370496<=time) (h5:time<=4503599627370496) (w:World) :
  Calls Tryz.prog 307 #[.agg #[.int .i64 raw,.int .i64 time,.int .i64 ppb,.int .i64 0,.int .i64 0,.int .i64 steps],.int .i64 r] w fun e w'=>e=.returned (.agg #[.int .i64 r,.int .i64 (time+(r-raw)+(r-raw)*ppb / 1000000000),.int .i64 ppb,.int .i64 0,.int .i64 0,.int .i64 steps])/\Oy [] w w':=by
 obtain⟨d,hd⟩:∃ d,r-raw=d:=⟨_,rfl⟩;have r1:wrap .i64 (r-raw)=d:=by rw[wrap_i64];omega
 rw[hd];have H1:=aA (YG raw time ppb steps d (by omega) (by omega) h2 h3 h4 h5);have H2:=aA (pPart d 0 (by omega) (by omega) (by omega) (by omega));rw[Int.mul_zero,Int.zero_ediv] at H2;generalize time+d+d*ppb / 1000000000=t at H1 |-;clear hr h1 h2 h3 h4 h5 hd;have m:=bJ w [];have k:=m.zK;go_enter Tryz.func307,Tryz.ntmps307
 go_wp2_with (first|((with_reducible first|refine cM (H1.out _) ?_|refine cM (H2.out _) ?_|refine wU ?_);clear k m;intro w m k)|((with_reducible refine lF (fun w k=>⟨rfl,?_⟩));simp[results,Tryz.results307,go_sem,k]))
theorem pFreq1 {w:World} {bs bp:Nat} {raw time ppb p steps:Int} (hs:w.heap[bs]? = some (.cells #[.int .i64 raw,.int .i64 time,.int .i64 ppb,.int .i64 0,.int .i64 0,.int .i64 steps] 213 (0,0))) (hp:w.heap[bp]? = some (.cells #[.int .i64 p] 3 (0,0))) (hn:bs≠bp)  :
  Calls Tryz.prog 294 #[.pointer (some ⟨bs,0,none⟩),.pointer (some ⟨bp,0,none⟩)] w fun e w'=>e=.returned (.int .i64 0)/\w'.heap[bs]? = some (.cells #[.int .i64 raw,.int .i64 time,.int .i64 p,.int .i64 0,.int .i64 0,.int .i64 steps] 213 (0,0))/\Oy [bs] w w':=by
 have m:Mm w [bs] w _:=⟨((Mem.start w [bs]).ext false hp (by simp) (by simp)).ext true hs (by simpa using hn) (by simp)⟩;have k:=m.zK;clear hs hp hn;go_enter Tryz.func294,Tryz.ntmps294
 go_wp2_with (first|((with_reducible refine wU ?_);clear k m;intro w m k)|((with_reducible refine lE (fun w o g k K hK=>⟨rfl,?_⟩));simp[results,Tryz.results294,go_sem];refine hK _ ?_;exact⟨rfl,Has.h w g,o⟩))
def st1 (time delta steps:Int):Int × Int × Int:=if fQ (time+delta)=true then (if steps=9223372036854775807 then (4,time,steps) else (0,time+delta,steps+1)) else (3,time,steps)
theorem pStep1 {w:World} {bs bp:Nat} {raw time ppb d steps:Int} (hs:w.heap[bs]? = some (.cells #[.int .i64 raw,.int .i64 time,.int .i64 ppb,.int .i64 0,.int .i64 0,.int .i64 steps] 213 (0,0))) (hp:w.heap[bp]? = some (.cells #[.int .i64 d] 3 (0,0))) (hn:bs≠bp) (h0: -9007199254740992<=time+d) (h1:time+d<=9007199254740992) (h2:0<=steps) (h3:steps<=9223372036854775807)  :
  Calls Tryz.prog 293 #[.pointer (some ⟨bs,0,none⟩),.pointer (some ⟨bp,0,none⟩)] w fun e w'=>e=.returned (.int .i64 (st1 time d steps).1)/\w'.heap[bs]? = some (.cells #[.int .i64 raw,.int .i64 (st1 time d steps).2.1,.int .i64 ppb,.int .i64 0,.int .i64 0,.int .i64 (st1 time d steps).2.2] 213 (0,0))/\Oy [bs] w w':=by
 obtain⟨t,ht⟩:∃ t,time+d=t:=⟨_,rfl⟩;have r1:wrap .i64 (time+d)=t:=by rw[wrap_i64];omega
 have HW:=aA (jS t 4503599627370496 (by omega) (by omega));obtain⟨res,HE⟩:∃ q,Hid (st1 time d steps=q):=⟨_,aA rfl⟩;rw[HE.out];unfold st1 fQ at HE;rw[ht] at HE;generalize bZ t (-4503599627370496) 4503599627370496=x at HW HE;clear h0 h1 ht;have go:x=true->steps≠9223372036854775807->wrap .i64 (steps+1)=steps+1:=fun _ _=>by rw[wrap_i64];omega
 cases x
 rotate_left
 by_cases hz:steps=9223372036854775807
 rotate_left
 have r2:=go rfl hz;all_goals clear go h2 h3
 all_goals have m:Mm w [bs] w _:=⟨((Mem.start w [bs]).ext false hp (by simp) (by simp)).ext true hs (by simpa using hn) (by simp)⟩;have k:=m.zK;clear hs hp hn
 all_goals go_enter Tryz.func293,Tryz.ntmps293
 all_goals go_wp2_with (first|((with_reducible first|refine cM (HW.out _) ?_|refine wU ?_);clear k m;intro w m k)|((with_reducible refine iY (id:=1) [0,1,2,3,4,5,6,7] [] ?_);simp only[bV];(repeat' (first|go_big_quiet_step (with_reducible first|exact gX (HW.out _))|(refine wpQuiet_step (fun K hK=>?_);go_simp;(first|(refine hK _ ?_;clear hK K)|(split<;>(refine hK _ ?_;clear hK K))))));all_goals (refine wpQuiet_nil ?_;clear k m;intro w m k))|((with_reducible refine iY (id:=5) [0,1,2,3,4,5,6,7] [8] ?_);simp only[bV];(repeat' (first|go_big_quiet_step (with_reducible first|exact gX (HW.out _))|(refine wpQuiet_step (fun K hK=>?_);go_simp;(first|(refine hK _ ?_;clear hK K)|(split<;>(refine hK _ ?_;clear hK K))))));all_goals (refine wpQuiet_nil ?_;clear k m;intro w m k))|((with_reducible refine lE (fun w o g k K hK=>⟨rfl,?_⟩));simp[results,Tryz.results293,go_sem];refine hK _ ?_;clear hK K k;rw[<-HE.out];(go_tidy;grind)))
theorem qW {c:Ck} {r:Int} (h:(eP c r).2=0):c.raw<=r/\r<=4503599627370496/\fQ (gD c r)=true/\eP c r=(gD c r,0):=by
 unfold eP at h |-;split at h
 ·exact absurd h (by decide)
 ·split at h
  ·exact absurd h (by decide)
  ·split at h
   ·rename_i h1 h2 h3
    exact⟨by omega,by omega,h3,by rw[if_neg h1,if_neg h2,if_pos h3]⟩
   ·exact absurd h (by decide)
def lY (c:Ck) (r ppb:Int):Int × Ck:=if (eP c r).2=0 then (0,⟨r,gD c r,ppb,c.steps⟩) else ((eP c r).2,c)
def jF (c:Ck) (r d:Int):Int × Ck:=if (eP c r).2=0 then (if (st1 (gD c r) d c.steps).1=0 then (0,⟨r,(st1 (gD c r) d c.steps).2.1,c.ppb,(st1 (gD c r) d c.steps).2.2⟩) else ((st1 (gD c r) d c.steps).1,c)) else ((eP c r).2,c)
theorem ZC {w:World} {b bp:Nat} {c:Ck} {x:Int} (hc:kT w b c) (hok:jE c) (r:Int) (h0: -9223372036854775808<=r) (h1:r<=9223372036854775807) (hp:w.heap[bp]? = some (.cells #[.int .i64 x] 3 (0,0))) (hn:b≠bp)  :
  Calls Tryz.prog 292 #[.pointer (some ⟨b,0,none⟩),.int .i64 r,.bool true,.func (.func 294) #[] #[.pointer (some ⟨bp,0,none⟩)]] w fun e w'=>e=.returned (.int .i64 (lY c r x).1)/\kT w' b (lY c r x).2/\Oy [b] w w':=by
 have H1:=aA (fun (w':World) (h:kT w' b c)=>ZE h hok r h0 h1);have HK:=aA hok;obtain⟨res,HE⟩:∃ q,Hid (lY c r x=q):=⟨_,aA rfl⟩;rw[HE.out];unfold lY at HE;unfold kT at hc H1 |-;clear hok;have hx:=qW (c:=c) (r:=r);obtain⟨raw,time,ppb,steps⟩:=c;dsimp only at hc H1 HE |-;have m:Mm w [b] w _:=⟨((Mem.start w [b]).ext false hp (by simp) (by simp)).ext true hc (by simpa using hn) (by simp)⟩;have k:=m.zK;clear hc hp hn;obtain⟨q1,q2⟩:∃ a,eP ⟨raw,time,ppb,steps⟩ r=a:=⟨_,rfl⟩;rw[q2] at H1 HE hx;obtain⟨nv,ne⟩:=q1;dsimp only at H1 HE hx;clear q2;by_cases hz:ne=0
 ·subst hz
  obtain⟨q1,q2,q3,q4⟩:=hx rfl;obtain rfl:nv=gD ⟨raw,time,ppb,steps⟩ r:=by simpa using q4
  have HT:=aA (aY.1 (show bZ (gD ⟨raw,time,ppb,steps⟩ r) (-4503599627370496) 4503599627370496=true from q3));have HM:=aA (YP raw time ppb steps r q1 (by have:=HK.out.r0;dsimp only at this;omega) HK.out.p0 HK.out.p1 HK.out.t0 HK.out.t1);rw[show time+(r-raw)+(r-raw)*ppb / 1000000000=gD ⟨raw,time,ppb,steps⟩ r from rfl] at HM;generalize gD ⟨raw,time,ppb,steps⟩ r=t at HE HM HT H1;clear q1 q2 q3 q4 h0 h1 hx;have HF:=aA (fun (w2:World) (bs:Nat) hs hp hn=>pFreq1 (w:=w2) (bs:=bs) (bp:=bp) (raw:=r) (time:=t) (ppb:=ppb) (p:=x) (steps:=steps) hs hp hn);go_enter Tryz.func292,Tryz.ntmps292
  go_wp2_with (first|((with_reducible first|refine cU ?_|refine cM (H1.out _ gB) ?_|refine cM (HM.out _) ?_|refine cP (HF.out w _ gB gB (gN w)) ?_|refine wU ?_);clear k m;intro w m k)|((with_reducible refine lE (fun w o g k K hK=>⟨rfl,?_⟩));simp[results,Tryz.results292,go_sem];refine hK _ ?_;clear hK K k;rw[<-HE.out];(go_tidy;grind)))
 ·clear hx h0 h1
  go_enter Tryz.func292,Tryz.ntmps292
  go_wp2_with (first|((with_reducible first|refine cM (H1.out _ gB) ?_|refine wU ?_);clear k m;intro w m k)|((with_reducible refine lE (fun w o g k K hK=>⟨rfl,?_⟩));simp[results,Tryz.results292,go_sem];refine hK _ ?_;clear hK K k;rw[<-HE.out];(go_tidy;grind)))
theorem ZB {w:World} {b bp:Nat} {c:Ck} {x:Int} (hc:kT w b c) (hok:jE c) (r:Int) (h0: -9223372036854775808<=r) (h1:r<=9223372036854775807) (hp:w.heap[bp]? = some (.cells #[.int .i64 x] 3 (0,0))) (hn:b≠bp) (x0: -4503599627370496<=x) (x1:x<=4503599627370496)  :
  Calls Tryz.prog 292 #[.pointer (some ⟨b,0,none⟩),.int .i64 r,.bool true,.func (.func 293) #[] #[.pointer (some ⟨bp,0,none⟩)]] w fun e w'=>e=.returned (.int .i64 (jF c r x).1)/\kT w' b (jF c r x).2/\Oy [b] w w':=by
 have H1:=aA (fun (w':World) (h:kT w' b c)=>ZE h hok r h0 h1);have HK:=aA hok;obtain⟨res,HE⟩:∃ q,Hid (jF c r x=q):=⟨_,aA rfl⟩;rw[HE.out];unfold jF at HE;unfold kT at hc H1 |-;clear hok;have hx:=qW (c:=c) (r:=r);obtain⟨raw,time,ppb,steps⟩:=c;dsimp only at hc H1 HE |-;have m:Mm w [b] w _:=⟨((Mem.start w [b]).ext false hp (by simp) (by simp)).ext true hc (by simpa using hn) (by simp)⟩;have k:=m.zK;clear hc hp hn;obtain⟨q1,q2⟩:∃ a,eP ⟨raw,time,ppb,steps⟩ r=a:=⟨_,rfl⟩;rw[q2] at H1 HE hx;obtain⟨nv,ne⟩:=q1;dsimp only at H1 HE hx;clear q2;by_cases hz:ne=0
 ·subst hz
  obtain⟨q1,q2,q3,q4⟩:=hx rfl;obtain rfl:nv=gD ⟨raw,time,ppb,steps⟩ r:=by simpa using q4
  have HT:=aA (aY.1 (show bZ (gD ⟨raw,time,ppb,steps⟩ r) (-4503599627370496) 4503599627370496=true from q3));have HM:=aA (YP raw time ppb steps r q1 (by have:=HK.out.r0;dsimp only at this;omega) HK.out.p0 HK.out.p1 HK.out.t0 HK.out.t1);rw[show time+(r-raw)+(r-raw)*ppb / 1000000000=gD ⟨raw,time,ppb,steps⟩ r from rfl] at HM;generalize gD ⟨raw,time,ppb,steps⟩ r=t at HE HM HT H1;clear q1 q2 q3 q4 h0 h1 hx;have HF:=aA (fun (w2:World) (bs:Nat) hs hp hn=>pStep1 (w:=w2) (bs:=bs) (bp:=bp) (raw:=r) (time:=t) (ppb:=ppb) (d:=x) (steps:=steps) hs hp hn (by have:=HT.out;omega) (by have:=HT.out;omega) HK.out.s0 HK.out.s1);generalize st1 t x steps=so at HE HF;obtain⟨s1,s2,s3⟩:=so;dsimp only at HE HF;clear x0 x1;go_enter Tryz.func292,Tryz.ntmps292
  go_wp2_with (first|((with_reducible first|refine cU ?_|refine cM (H1.out _ gB) ?_|refine cM (HM.out _) ?_|refine cP (HF.out w _ gB gB (gN w)) ?_|refine wU ?_);clear k m;intro w m k)|((with_reducible refine lE (fun w o g k K hK=>⟨rfl,?_⟩));simp[results,Tryz.results292,go_sem];refine hK _ ?_;clear hK K k;rw[<-HE.out];(go_tidy;grind)))
 ·clear hx h0 h1
  go_enter Tryz.func292,Tryz.ntmps292
  go_wp2_with (first|((with_reducible first|refine cM (H1.out _ gB) ?_|refine wU ?_);clear k m;intro w m k)|((with_reducible refine lE (fun w o g k K hK=>⟨rfl,?_⟩));simp[results,Tryz.results292,go_sem];refine hK _ ?_;clear hK K k;rw[<-HE.out];(go_tidy;grind)))
theorem Y8 {w:World} {b:Nat} {c:Ck} (hc:kT w b c) (hok:jE c) (r:Int) (h0: -9223372036854775808<=r) (h1:r<=9223372036854775807) (x:Int) (x0: -500000<=x) (x1:x<=500000)  :
  Calls Tryz.prog 265 #[.pointer (some ⟨b,0,none⟩),.int .i64 r,.int .i64 x] w fun e w'=>e=.returned (.int .i64 (lY c r x).1)/\kT w' b (lY c r x).2/\Oy [b] w w':=by
 have HW:=aA (jS x 500000 (by decide) (by decide));rw[show bZ x (-500000) 500000=true from aY.2 ⟨x0,x1⟩] at HW;have HF:=aA (fun (w2:World) (bp:Nat) (hc:kT w2 b c) hp hn=>ZC (bp:=bp) (x:=x) hc hok r h0 h1 hp hn);generalize lY c r x=q at HF |-;unfold kT at hc HF |-;obtain⟨raw,time,ppb,steps⟩:=c;obtain⟨q1,⟨q2,q3,q4,q5⟩⟩:=q;dsimp only at hc HF |-;clear hok h0 h1 x0 x1;have m:=kV hc;have k:=m.zK;clear hc;go_enter Tryz.func265,Tryz.ntmps265
 go_wp2_with (first|((with_reducible first|refine cU ?_|refine cM (HW.out _) ?_|refine cP (HF.out w _ gB gB (gN w)) ?_|refine wU ?_);clear k m;intro w m k)|((with_reducible refine lE (fun w o g k K hK=>⟨rfl,?_⟩));simp[results,Tryz.results265,go_sem];refine hK _ ?_;exact⟨rfl,Has.h w g,o⟩))
theorem Y7 {w:World} {b:Nat} {c:Ck} (hc:kT w b c) (hok:jE c) (r:Int) (h0: -9223372036854775808<=r) (h1:r<=9223372036854775807) (x:Int) (x0: -4503599627370496<=x) (x1:x<=4503599627370496)  :
  Calls Tryz.prog 264 #[.pointer (some ⟨b,0,none⟩),.int .i64 r,.int .i64 x] w fun e w'=>e=.returned (.int .i64 (jF c r x).1)/\kT w' b (jF c r x).2/\Oy [b] w w':=by
 have HW:=aA (jS x 4503599627370496 (by decide) (by decide));rw[show bZ x (-4503599627370496) 4503599627370496=true from aY.2 ⟨x0,x1⟩] at HW;have HF:=aA (fun (w2:World) (bp:Nat) (hc:kT w2 b c) hp hn=>ZB (bp:=bp) (x:=x) hc hok r h0 h1 hp hn x0 x1);generalize jF c r x=q at HF |-;unfold kT at hc HF |-;obtain⟨raw,time,ppb,steps⟩:=c;obtain⟨q1,⟨q2,q3,q4,q5⟩⟩:=q;dsimp only at hc HF |-;clear hok h0 h1 x0 x1;have m:=kV hc;have k:=m.zK;clear hc;go_enter Tryz.func264,Tryz.ntmps264
 go_wp2_with (first|((with_reducible first|refine cU ?_|refine cM (HW.out _) ?_|refine cP (HF.out w _ gB gB (gN w)) ?_|refine wU ?_);clear k m;intro w m k)|((with_reducible refine lE (fun w o g k K hK=>⟨rfl,?_⟩));simp[results,Tryz.results264,go_sem];refine hK _ ?_;exact⟨rfl,Has.h w g,o⟩))
theorem UC {w:World} {b:Nat} {c:Ck} (hc:kT w b c)  :
  Calls Tryz.prog 232 #[.pointer (some ⟨b,0,none⟩)] w fun e w'=>e=.returned (.agg #[.int .i64 c.raw,.int .i64 c.time,.int .i64 c.ppb,.int .i64 0,.int .i64 0,.int .i64 c.steps])/\Oy [] w w':=by
 unfold kT at hc;have m:=iX hc;have k:=m.zK;clear hc;go_enter Tryz.func232,Tryz.ntmps232
 go_wp2_with (first|((with_reducible refine wU ?_);clear k m;intro w m k)|((with_reducible refine lE (fun w o g k K hK=>⟨rfl,?_⟩));simp[results,Tryz.results232,go_sem,k];refine hK _ ?_;exact⟨rfl,o⟩))
end
section
open Go.RowKit
structure Ac where
 kind:Int
 val:Int
deriving DecidableEq,Inhabited
def VI (a:Ac):Value:=.agg #[.int .i64 a.kind,.int .i64 a.val]
def gnS (k e:Int):Int:=QY (k*e / 65536)
def MS (off span:Int):Int:=if NT (off*1000000000 / span)=true then dA (QY (off*1000000000 / span)) (-1000000000) 1000000000 else if 0<off then 1000000000 else -1000000000
def thS (s:Sv):Int:=if s.smp=0 then s.c.sf else s.c.sl
def itS (s:Sv) (e:Int):Int:=dA (s.itg+gnS s.c.ki e) (-s.c.lim) s.c.lim
def frS (s:Sv) (e i:Int):Int:=dA (gnS s.c.kp e+i) (-s.c.lim) s.c.lim
def JV (s:Sv) (off span:Int):Ac × Sv:=
 if 0<thS s/\thS s<max off (-off) then (⟨2,off⟩,{ s with smp:=wrap64 (s.smp+1) })
 else (⟨1,frS s (MS off span) (itS s (MS off span))⟩,⟨s.c,itS s (MS off span),wrap64 (s.smp+1),frS s (MS off span) (itS s (MS off span))⟩)
def fZ (s:Sv) (off span:Int):Ac × Int × Sv:=if bZ off (-1125899906842624) 1125899906842624=true/\bZ span 1 1125899906842624=true then ((JV s off span).1,0,(JV s off span).2) else (⟨0,0⟩,3,s)
structure JG (s:Sv):Prop where
 kp0:0<=s.c.kp
 kp1:s.c.kp<=1048576
 ki0:0<=s.c.ki
 ki1:s.c.ki<=1048576
 l0:1<=s.c.lim
 l1:s.c.lim<=500000
 sf:0<=s.c.sf/\s.c.sf<=1125899906842624
 sl:0<=s.c.sl/\s.c.sl<=1125899906842624
 i0: -s.c.lim<=s.itg
 i1:s.itg<=s.c.lim
theorem sJ {n lo hi:Int} (h:lo<=hi):lo<=dA n lo hi/\dA n lo hi<=hi:=by unfold dA;split<;>(try split)<;>omega
theorem slS_bd (off span:Int): -1000000000<=MS off span/\MS off span<=1000000000:=by
 unfold MS;split
 ·exact sJ (by decide)
 ·split<;>decide
theorem gn_bd {k e:Int} (h0:0<=k) (h1:k<=1048576) (h2: -1000000000<=e) (h3:e<=1000000000): -16000000001<=gnS k e/\gnS k e<=16000000001:=by
 have a:=Int.mul_le_mul_of_nonneg_left (c:=k) h3 h0;have b:=Int.mul_le_mul_of_nonneg_left (c:=k) h2 h0;have c:=Int.mul_le_mul_of_nonneg_right (c:=(1000000000:Int)) h1 (by omega);rw[show k* -1000000000= -(k*1000000000) by omega] at b;have d: -16000000001<=k*e / 65536:=by rw[Int.le_ediv_iff_mul_le (by omega)];omega
 have f:k*e / 65536<=16000000001:=Int.ediv_le_of_le_mul (by omega) (by omega);unfold gnS QY;split<;>omega
theorem pSlope (off span:Int) (a0: -1125899906842624<=off) (a1:off<=1125899906842624) (b0:1<=span) (b1:span<=1125899906842624) (w:World) :
  Calls Tryz.prog 305 #[.int .i64 off,.int .i64 span] w fun e w'=>e=.returned (.int .i64 (MS off span))/\Oy [] w w':=by
 have HM:=aA (fun w=>j5 (mU off 1000000000 span w (by omega) (by omega) (by omega) (by omega) (by omega) (by omega)));obtain⟨res,HE⟩:∃ r,Hid (MS off span=r):=⟨_,aA rfl⟩;rw[HE.out];unfold MS at HE;generalize NT (off*1000000000 / span)=b at HM HE;generalize QY (off*1000000000 / span)=v at HM HE;have HC:=aA (zP v (-1000000000) 1000000000 (by decide));have m:=bJ w [];have k:=m.zK;go_enter Tryz.func305,Tryz.ntmps305
 go_wp2_with (first|((with_reducible first|refine cM (HM.out _) ?_|refine cM (HC.out _) ?_|refine wU ?_);clear k m;intro w m k)|((with_reducible refine lF (fun w _=>⟨rfl,?_⟩));rw[<-HE.out];simp[results,Tryz.results305,go_sem]))
 all_goals first|rfl|(clear k m;go_tidy;grind)|trace_state
theorem pGain (k0 z:Int) (a0:0<=k0) (a1:k0<=1048576) (b0: -1000000000<=z) (b1:z<=1000000000) (w:World) :
  Calls Tryz.prog 306 #[.int .i64 k0,.int .i64 z] w fun e w'=>e=.returned (.int .i64 (gnS k0 z))/\Oy [] w w':=by
 have HM:=aA (fun w=>j5 (mU k0 z 65536 w (by omega) (by omega) (by omega) (by omega) (by omega) (by omega)));unfold gnS;generalize NT (k0*z / 65536)=b at HM;generalize QY (k0*z / 65536)=v at HM |-;have m:=bJ w [];have k:=m.zK;go_enter Tryz.func306,Tryz.ntmps306
 go_wp2_with (first|((with_reducible first|refine cM (HM.out _) ?_|refine wU ?_);clear k m;intro w m k)|((with_reducible refine lF (fun w _=>⟨rfl,?_⟩));simp[results,Tryz.results306,go_sem]))
 all_goals first|rfl|(clear k m;go_tidy;grind)|trace_state
theorem YI {w:World} {b:Nat} {s:Sv} (hs:mH w b s) (hok:JG s) (off span:Int) (a0: -1125899906842624<=off) (a1:off<=1125899906842624) (b0:1<=span) (b1:span<=1125899906842624)  :
  Calls Tryz.prog 288 #[.pointer (some ⟨b,0,none⟩),.int .i64 off,.int .i64 span] w fun e w'=>e=.returned (VI (JV s off span).1)/\mH w' b (JV s off span).2/\Oy [b] w w':=by
 obtain⟨⟨kp,ki,lim,sf,sl⟩,itg,smp,frq⟩:=s;obtain⟨q1,q2,q3,q4,q5,q6,q7,q8,q9,qa⟩:=hok;dsimp only at q1 q2 q3 q4 q5 q6 q7 q8 q9 qa;unfold mH at hs |-;dsimp only at hs;have HL:=aA (pSlope off span a0 a1 b0 b1);have hb:=slS_bd off span;obtain⟨res,HE⟩:∃ r,Hid (JV ⟨⟨kp,ki,lim,sf,sl⟩,itg,smp,frq⟩ off span=r):=⟨_,aA rfl⟩;rw[HE.out];unfold JV frS itS thS at HE;dsimp only at HE;generalize MS off span=e at HL HE hb;have HG1:=aA (pGain ki e q3 q4 hb.1 hb.2);have HG2:=aA (pGain kp e q1 q2 hb.1 hb.2);have g1:=gn_bd q3 q4 hb.1 hb.2;have g2:=gn_bd q1 q2 hb.1 hb.2;generalize gnS ki e=x1 at HG1 HE g1;generalize gnS kp e=x2 at HG2 HE g2;have HC1:=aA (zP (itg+x1) (-lim) lim (by omega));have c1:=sJ (n:=itg+x1) (lo:=-lim) (hi:=lim) (by omega);have r1:wrap .i64 (itg+x1)=itg+x1:=by rw[wrap_i64];omega
 have r2:wrap .i64 (-lim)= -lim:=by rw[wrap_i64];omega
 have r3:wrap .i64 (-off)= -off:=by rw[wrap_i64];omega
 generalize dA (itg+x1) (-lim) lim=y1 at HC1 HE c1;have HC2:=aA (zP (x2+y1) (-lim) lim (by omega));have r4:wrap .i64 (x2+y1)=x2+y1:=by rw[wrap_i64];omega
 generalize dA (x2+y1) (-lim) lim=y2 at HC2 HE;clear hb g1 g2 c1 q1 q2 q3 q4 q5 q6 q7 q8 q9 qa a0 a1 b0 b1;have m:=kV hs;have k:=m.zK;clear hs;go_enter Tryz.func288,Tryz.ntmps288
 go_wp2_with (first|((with_reducible first|refine cM (HL.out _) ?_|refine cM (HC1.out _) ?_|refine cM (HC2.out _) ?_|refine cM (HG1.out _) ?_|refine cM (HG2.out _) ?_|refine wU ?_);clear k m;intro w m k)|((with_reducible refine iY (id:=9) [0,1,2,3,4,5,6,7,8,9,10,11,12,13,14,15,16,17,18] [19] ?_);simp only[bV];(repeat' (first|go_big_quiet_step (with_reducible first|exact gX (HL.out _)|exact gX (HC1.out _)|exact gX (HC2.out _)|exact gX (HG1.out _)|exact gX (HG2.out _))|(refine wpQuiet_step (fun K hK=>?_);go_simp;(first|(refine hK _ ?_;clear hK K)|(split<;>(refine hK _ ?_;clear hK K))))));all_goals (refine wpQuiet_nil ?_;clear k m;intro w m k))|((with_reducible refine iY (id:=10) [0,1,2,3,4,5,6,7,8,9,10,11,12,13,14,15,16,17,18] [19] ?_);simp only[bV];(repeat' (first|go_big_quiet_step (with_reducible first|exact gX (HL.out _)|exact gX (HC1.out _)|exact gX (HC2.out _)|exact gX (HG1.out _)|exact gX (HG2.out _))|(refine wpQuiet_step (fun K hK=>?_);go_simp;(first|(refine hK _ ?_;clear hK K)|(split<;>(refine hK _ ?_;clear hK K))))));all_goals (refine wpQuiet_nil ?_;clear k m;intro w m k))|((with_reducible refine lE (fun w o g k K hK=>⟨rfl,?_⟩));simp[results,Tryz.results288,go_sem,k];refine hK _ ?_;clear hK K k;rw[<-HE.out];(go_tidy;grind [VI,mH])))
theorem TS {w:World} {b:Nat} {s:Sv} (hs:mH w b s) (hok:JG s) (off span:Int)  :
  Calls Tryz.prog 287 #[.int .i64 off,.int .i64 span,.func (.func 288) #[.pointer (some ⟨b,0,none⟩)] #[]] w fun e w'=>e=.returned (.tuple #[VI (fZ s off span).1,.int .i64 (fZ s off span).2.1])/\mH w' b (fZ s off span).2.2/\Oy [b] w w':=by
 have HW1:=aA (lJ off (-1125899906842624) 1125899906842624 (by decide));have HW2:=aA (lJ span 1 1125899906842624 (by decide));have HS:=aA (fun (w':World) (h:mH w' b s)=>YI h hok off span);have HX:=aA (And.intro (aY (n:=off) (lo:=-1125899906842624) (hi:=1125899906842624)) (aY (n:=span) (lo:=1) (hi:=1125899906842624)));obtain⟨res,HE⟩:∃ r,Hid (fZ s off span=r):=⟨_,aA rfl⟩;rw[HE.out];unfold fZ at HE;generalize bZ off (-1125899906842624) 1125899906842624=b1 at HW1 HX HE;generalize bZ span 1 1125899906842624=b2 at HW2 HX HE;generalize JV s off span=rs at HS HE;obtain⟨⟨kp,ki,lim,sf,sl⟩,itg,smp,frq⟩:=s;unfold mH at hs HS |-;dsimp only at hs HS HE |-;obtain⟨ra,⟨⟨rkp,rki,rlim,rsf,rsl⟩,ritg,rsmp,rfrq⟩⟩:=rs;obtain⟨rk,rv⟩:=ra;unfold VI at HS |-;dsimp only at HS HE |-;clear hok
 cases b1
 rotate_left
 cases b2
 rotate_left
 have HT:=aA (fun (w':World) h=>HS.out w' h (HX.out.1.1 rfl).1 (HX.out.1.1 rfl).2 (HX.out.2.1 rfl).1 (HX.out.2.1 rfl).2);all_goals clear HX HS
 all_goals (have m:=kV hs;have k:=m.zK;clear hs)
 all_goals go_enter Tryz.func287,Tryz.ntmps287
 all_goals go_wp2_with (first|((with_reducible first|refine cM (HW1.out _) ?_|refine cM (HW2.out _) ?_|refine cP (HT.out _ gB) ?_|refine wU ?_);clear k m;intro w m k)|((with_reducible refine lE (fun w o g k K hK=>⟨rfl,?_⟩));simp[results,Tryz.results287,go_sem,k];refine hK _ ?_;clear hK K k;rw[<-HE.out];(go_tidy;grind [VI,mH])))
theorem pSample {w:World} {b:Nat} {s:Sv} (hs:mH w b s) (hok:JG s) (off span:Int)  :
  Calls Tryz.prog 260 #[.pointer (some ⟨b,0,none⟩),.int .i64 off,.int .i64 span] w fun e w'=>e=.returned (.tuple #[VI (fZ s off span).1,.int .i64 (fZ s off span).2.1])/\mH w' b (fZ s off span).2.2/\Oy [b] w w':=by
 have HS:=aA (fun (w':World) (h:mH w' b s)=>TS h hok off span);generalize fZ s off span=rs at HS |-;obtain⟨⟨kp,ki,lim,sf,sl⟩,itg,smp,frq⟩:=s;unfold mH at hs HS |-;dsimp only at hs HS |-;obtain⟨⟨rk,rv⟩,re,⟨⟨rkp,rki,rlim,rsf,rsl⟩,ritg,rsmp,rfrq⟩⟩:=rs;unfold VI at HS |-;dsimp only at HS |-;clear hok;have m:=kV hs;have k:=m.zK;clear hs;go_enter Tryz.func260,Tryz.ntmps260
 go_wp2_with (first|((with_reducible first|refine cP (HS.out _ gB) ?_|refine wU ?_);clear k m;intro w m k)|((with_reducible refine lE (fun w o g k K hK=>⟨rfl,?_⟩));simp[results,Tryz.results260,go_sem,k];refine hK _ ?_;clear hK K k;skip;(go_tidy;grind [VI,mH])))
end
end Go.Proofs.YtppjhbjmfkiejaaGreat
