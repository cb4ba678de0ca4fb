/- Texts of one chain: E7, E8. Conditions: those named in each theorem. -/
import Derived.Test.YthbgcpfklmlnjaaGreatFV7
import Derived.Test.YthbgcpfklmlnjaaGreatFJc
namespace Go.Proofs.YthbgcpfklmlnjaaGreat
open List (getD_cons_succ getD_cons_zero map_cons map_nil mem_cons not_mem_nil)
open IntKind (wrap_i64)
open Go.Lib (hid)
set_option maxRecDepth 100000
set_option maxHeartbeats 20000000
section
open Go.RowKit Go.Sort
def ZM (x y:iM):Int:=if Lib.compareInt x.dly y.dly != 0 then Lib.compareInt x.dly y.dly else Lib.compareInt y.tat x.tat
theorem MW (x y:iM):ltOf ZM x y=decide (x.dly<y.dly\/(x.dly=y.dly/\y.tat<x.tat)):=by
 unfold ltOf ZM Lib.compareInt;by_cases h1:x.dly<y.dly
 ·simp[h1]
 ·by_cases h2:y.dly<x.dly
  ·have:x.dly≠y.dly:=by omega
   simp[h1,h2,this]
  ·have e:x.dly=y.dly:=by omega
   by_cases h5:y.tat<x.tat
   ·simp[e,h5]
   ·by_cases h6:x.tat<y.tat<;>simp[e,h5,h6]
theorem cfS_swo:SWO (ltOf ZM) where
 irrefl x:=by rw[MW];simp
 trans x y z h1 h2:=by rw[MW] at *;simp only[decide_eq_true_eq] at *;omega
 ntrans x y z h1 h2:=by rw[MW] at *;simp only[decide_eq_false_iff_not] at *;omega
theorem NV (c:iM):∀ u∈jR c,u.oneCell'=true:=by
 intro u hu;simp only[jR,mem_cons,not_mem_nil,or_false] at hu;rcases hu with rfl|rfl|rfl|rfl<;>rfl
def tF (l:List iM):List iM:=(Sort.insertionSort (ltOf ZM) l.toArray 0 l.length).toList
theorem nI (l:List iM):(tF l).Perm l:=by
 have h:=(insertionSort_holds (lt:=ltOf ZM) cfS_swo l.toArray 0 l.length (Nat.zero_le _) (by simp)).1;obtain⟨h1,_,h3⟩:=h;unfold tF;generalize Sort.insertionSort (ltOf ZM) l.toArray 0 l.length=d at h1 h3;have e1:d.extract 0 l.length=d:=by rw[show l.length=d.size by rw[h1];simp];simp
 have e2:l.toArray.extract 0 l.length=l.toArray:=by simp
 rw[e1,e2] at h3;simpa using h3
structure OsW (W:World) (xo xd xp xt yo yd yp yt:Int) (w:World):Prop where
 eq:∃ q os',w=grow (W.drewN q) os'
 a:w.heap[W.heap.size]? = some (.cells #[.int .i64 xo,.int .i64 xd,.int .i64 xp,.int .i64 xt] 180 (0,0))
 b:w.heap[W.heap.size+1]? = some (.cells #[.int .i64 yo,.int .i64 yd,.int .i64 yp,.int .i64 yt] 180 (0,0))
theorem SK (W:World) (xo xd xp xt yo yd yp yt:Int):OsW W xo xd xp xt yo yd yp yt ((W.alloc (.cells #[.int .i64 xo,.int .i64 xd,.int .i64 xp,.int .i64 xt] 180)).alloc (.cells #[.int .i64 yo,.int .i64 yd,.int .i64 yp,.int .i64 yt] 180)):=by
 refine⟨⟨0,_,by rw[alloc_eq_grow,alloc_eq_grow,grow_grow];rfl⟩,alloc_old (bA _ _),?_⟩;have:=bA (W.alloc (.cells #[.int .i64 xo,.int .i64 xd,.int .i64 xp,.int .i64 xt] 180)) (.cells #[.int .i64 yo,.int .i64 yd,.int .i64 yp,.int .i64 yt] 180);rwa [World.size_alloc] at this
theorem pOrdCmp (x y:iM) (W:World):Calls Tryz.prog 287 #[vX x,vX y] W fun e w'=>e=.returned (.int .i64 (ZM x y))/\∃ q os',w'=grow (W.drewN q) os':=by
 obtain⟨xo,xd,xp,xt⟩:=x;obtain⟨yo,yd,yp,yt⟩:=y;have H1:=hid (fun W'=>Tryz.cmp_Compare_int xd yd W');have H2:=hid (fun W'=>Tryz.cmp_Compare_int yt xt W');obtain⟨r,HE⟩:∃ r,Hid (ZM ⟨xo,xd,xp,xt⟩ ⟨yo,yd,yp,yt⟩=r):=⟨_,hid rfl⟩;rw[HE.out];unfold ZM at HE;dsimp only at HE;generalize Lib.compareInt xd yd=a at H1 HE;generalize Lib.compareInt yt xt=b at H2 HE;unfold vX;dsimp only;go_enter Tryz.func287,Tryz.ntmps287
 go_upto_region 1 with (fail)
 refine kP (G:=fun w0=>Code.wp _ _ _ _ w0) (R:=OsW W xo xd xp xt yo yd yp yt) (SK ..) ?_;intro w1 hw1;have HW:=hid hw1;clear hw1;have c1:=aA HW.out.a 1;have c3:=aA HW.out.a 3;have e1:=aA HW.out.b 1;have e3:=aA HW.out.b 3;have l1:=aD HW.out.a;have l2:=aD HW.out.b;go_wp2_with (first|((with_reducible first|refine Calls.mono (H1.out _) ?_|refine Calls.mono (H2.out _) ?_);rintro e w' ⟨rfl,rfl⟩)|((with_reducible refine lR (fun K hK=>⟨rfl,?_⟩));simp[results,Tryz.results287,go_sem];refine hK _ ?_;clear hK K;refine⟨?_,HW.out.eq⟩;rw[<-HE.out];go_tidy;grind))
theorem sortS_x {w:World} {g cap:Nat} {l:List iM} (h:aP jR 180 4 w g cap l) (hl:l.length<=12) :
  Calls Tryz.prog 286 #[.slice (some ⟨g,0,none⟩) l.length cap,.func (.func 287) #[] #[]] w fun e w'=>e=.returned (.tuple #[])/\aP jR 180 4 w' g cap (tF l)/\Only [g] w w':=by
 obtain⟨cur,hg,h1,h2,h3,h4⟩:=h;have hfl:=oL jR 4 iD l
 have hold:HoldsK jR 4 w g 0 l.toArray:=by
  intro j hj;rw[Nat.zero_add];refine⟨?_,aM hg j⟩;have hj':j<l.length*4:=by simpa using hj
  rw[aA hg,<-Array.getElem?_toList,<-List.getElem?_take_of_lt hj',h4,<-hfl,Array.getElem?_toList,getElem!_pos _ j hj,Array.getElem?_eq_getElem hj];rfl
 have hs:l.toArray.size=l.length:=by simp
 have hc:=AnyQ.slices_SortFunc_small Tryz.laySortS 4 Tryz.isAgg180 Tryz.sizeOf180 jR iD NV ZM 287 #[] g 0 cap l.toArray w (enters_of Tryz.func287 (by kernel_rfl) rfl) (fun _ _ _ _ x y=>pOrdCmp x y _) hold (aD hg) (by simpa using hl) (fun n W hn=>(Tryz.bits_Len n W (by omega) (by omega)).mono fun _ _ ⟨he,hw⟩=>⟨⟨_,he⟩,hw⟩);rw[hs] at hc;refine hc.mono ?_;rintro e w' ⟨rfl,n,os,rfl⟩;have hpm:=nI l;obtain⟨d',hd'⟩:∃ d',Sort.insertionSort (ltOf ZM) l.toArray 0 l.length=d':=⟨_,rfl⟩;have ho:tF l=d'.toList:=by rw[<-hd'];rfl
 rw[ho] at hpm |-;rw[hd'];have hd:d'.size=l.length:=by simpa using hpm.length_eq
 refine⟨rfl,⟨_,qH hg,by rw[mP];omega,by rw[hpm.length_eq];exact h2,h3,?_⟩,qG⟩;have hf2:=oL jR 4 iD d'.toList;have hle:(flatK jR 4 d').size<=cur.size:=by simp;rw[hd];omega
 have:=mO id (flatK jR 4 d') cur hle;rw[List.map_id,show d'=d'.toList.toArray by simp,hf2] at this;rw[<-this];simp
def smZ:Value:=.agg #[.int .i64 0,.int .i64 0,.int .i64 0,.int .i64 0]
theorem sm_info:(Tryz.prog.info? 180).map (fun i=>(i.zero,i.size,i.bytes))=some (some smZ,4,32):=by kernel_rfl
theorem I7 (l:List iM):∀ u∈l.flatMap jR,u.oneCell'=true:=fun u hu=>by
 obtain⟨x,_,hx⟩:=List.mem_flatMap.1 hu;exact NV x u hx
theorem cloneS {w:World} {p:Option Addr} {n cap:Nat} {l:List iM} (hv:aS jR 4 w p n cap l) (h0:0<l.length) (hl:l.length<=1000) :
  Calls Tryz.prog 285 #[.slice p n cap] w fun e w'=>(∃ g cap',e=.returned (.slice (some ⟨g,0,none⟩) l.length cap')/\w.heap.size<=g/\aP jR 180 4 w' g cap' l)/\Only [] w w':=by
 obtain⟨b,off,hp,hb,_⟩:=hv.cell 0 l[0] (List.getElem?_eq_getElem h0);subst hp;have hln:=hv.len;subst hln;have HV:=hid hv;have q22:∀ w,(binOp .eql 371 (.slice (some ⟨b,off,none⟩) l.length cap) (.slice none 0 0)).run Tryz.prog w=.ok (.bool false) w:=fun w=>Lib.run_eql_slice_nil w _ _ _ _ _ _ _ Tryz.underlying371;clear hv;go_enter Tryz.func285,Tryz.ntmps285
 go_wp2_with (at_builtin;refine bD ?_)
 refine aF (G:=fun w0=>Stop (wpList _ _ _ _ _ w0)) ?_;intro w1 hb1 ho1 hs1;have B1:=hid hb1;have O1:=hid ho1;have hrow:aP jR 180 4 w1 w.heap.size 0 []:=⟨#[],hb1,rfl,Nat.le_refl _,Nat.zero_le _,rfl⟩;have HR:=hid hrow;obtain⟨i0,hi0,hz0,hz1,hz2⟩:=info_parts sm_info;have HI0:=hid hi0;have HZ0:=hid hz0;have HZ1:=hid hz1;have HZ2:=hid hz2;clear hi0 hz0 hz1 hz2;clear hb1 ho1 hrow;refine cK ?_;refine cB rfl _ _ 371 rfl 180 i0 smZ 4 32 Tryz.underlying371 HI0.out HZ0.out HZ1.out HZ2.out rfl (by decide) (.slice (some ⟨w.heap.size,0,none⟩) 0 0) 0 [] rfl (HR.out.owns iD (Nat.zero_le _)) ⟨b,off,none⟩ l.length cap (l.flatMap jR) rfl (dW jR 4 iD l) (fun j u hj=>(HV.out.kept O1.out).flat iD hj) (I7 l) (by simp[maxLen];omega) (by omega) h0 ?_;intro g' cap' w' hown' ho' hg';rw[Nat.zero_add,List.nil_append] at hown'
 have hge:w.heap.size<=g':=by
  rcases hg' with hg'|hg'
  ·simp only[Value.ownBlock,Option.some.injEq] at hg';omega
  ·omega
 have R2:=hid (aP.kG hown' rfl);have O2:=hid (O1.out.trans (S:=[]) ho' (fun x hx=>.inr (by simp[Value.ownBlock] at hx;omega)));have HGE:=hid hge;clear hown' ho' hg' hge;rw[show 0+l.length=l.length from Nat.zero_add _];go_wp2;go_ret
 exact⟨⟨g',cap',rfl,HGE.out,R2.out⟩,O2.out⟩
end
section
open Go.RowKit Go.Sort
abbrev FlF (w:World) (b:Nat) (tol n:Int) (sh:Bool) (la:Int):Prop:=b<w.heap.size/\(∀ o,w.frozen? ⟨b,o,none⟩=false)/\w.cell? ⟨b,0,none⟩=some (.int .i64 tol)/\w.cell? ⟨b,33,none⟩=some (.int .i64 n)/\w.cell? ⟨b,34,none⟩=some (.bool sh)/\w.cell? ⟨b,35,none⟩=some (.int .i64 la)
theorem xJ {w:World} {b:Nat} {tol n la:Int} {sh:Bool} {L:List Value} {t:TypeId} (h:w.heap[b]? = some (.cells (jO tol L n sh la).toArray t (0,0))) (hL:L.length=32):FlF w b tol n sh la:=by
 refine⟨aD h,aM h,by rw[aA h];rfl,by rw[aA h,List.getElem?_toArray];exact gV hL,?_,?_⟩
 ·rw[aA h,List.getElem?_toArray,jO,show 34=33+1 from rfl,List.getElem?_cons_succ,List.getElem?_append_right (by omega),hL];rfl
 ·rw[aA h,List.getElem?_toArray,jO,show 35=34+1 from rfl,List.getElem?_cons_succ,List.getElem?_append_right (by omega),hL];rfl
abbrev SmF (w:World) (b o:Nat) (s:iM):Prop:=w.cell? ⟨b,o,none⟩=some (.int .i64 s.off)/\w.cell? ⟨b,o+1,none⟩=some (.int .i64 s.dly)/\w.cell? ⟨b,o+2,none⟩=some (.int .i64 s.dsp)/\w.cell? ⟨b,o+3,none⟩=some (.int .i64 s.tat)
theorem flS {w:World} {b:Nat} {tol n la:Int} {sh:Bool} {L:List Value} {t:TypeId} {l:List iM} (h:w.heap[b]? = some (.cells (jO tol L n sh la).toArray t (0,0))) (hL:L.length=32) (hT:L.take (l.length*4)=l.flatMap jR) (h8:l.length<=8) {k:Nat} (hk:k<l.length):SmF w b (1+k*4) l[k]:=by
 have g:∀ j,j<4->w.cell? ⟨b,1+k*4+j,none⟩=(jR l[k])[j]? :=fun j hj=>by
  rw[aA h,List.getElem?_toArray,show 1+k*4+j=1+(k*4+j) by omega,wO hL (by omega)];exact Y6 hT hk j hj
 exact⟨g 0 (by omega),g 1 (by omega),g 2 (by omega),g 3 (by omega)⟩
theorem fl_row {w:World} {b:Nat} {tol n la:Int} {sh:Bool} {L:List Value} {t:TypeId} {l:List iM} (h:w.heap[b]? = some (.cells (jO tol L n sh la).toArray t (0,0))) (hL:L.length=32) (hT:L.take (l.length*4)=l.flatMap jR) (h8:l.length<=8):aS jR 4 w (some ⟨b,1,none⟩) l.length 8 l:=by
 refine⟨rfl,h8,by decide,fun h=>(by cases h),fun i x hx=>⟨b,1,rfl,aD h,fun j v hv=>?_⟩⟩;have hi:=(List.getElem?_eq_some_iff.1 hx).1;have hj:j<4:=by have:=(List.getElem?_eq_some_iff.1 hv).1;simpa [iD] using this
 have hx':l[i]=x:=(List.getElem?_eq_some_iff.1 hx).2;rw[aA h,List.getElem?_toArray,wO hL (by omega),Y6 hT hi j hj,hx',hv]
def ZA (l:List iM) (now:Int):Bool:=match l.getLast? with
 | some x=>decide (now<x.tat)
 | none=>false
theorem pEarly {w:World} {b:Nat} {f:Fl} (hf:jQ w b f) (now:Int)  :
  Calls Tryz.prog 282 #[.pointer (some ⟨b,0,none⟩),.int .i64 now] w fun e w'=>e=.returned (.bool (ZA f.l now))/\Only [] w w':=by
 obtain⟨L,sh,la,hL,hI,hT,h8,hF0⟩:=hf;obtain⟨tol,l⟩:=f;dsimp only at hT h8 hF0 |-;have hF:w.heap[b]? = some (.cells (jO tol L l.length sh la).toArray 183 (0,0)):=hF0;clear hF0 hI;obtain⟨n,hn⟩:∃ n,l.length=n:=⟨_,rfl⟩;rcases n with _|n
 ·obtain rfl:l=[]:=List.eq_nil_of_length_eq_zero hn
  have HX:=hid (fun w' (o:Only [] w w')=>xJ (o.got hF (by simp)) hL);simp only[List.length_nil] at HX;clear hF hL hT h8 hn;have m:=dD w [];have k:=m.out.k;have c:=HX.out w (Only.refl [] w);go_enter Tryz.func282,Tryz.ntmps282
  go_wp2_with (first|((with_reducible refine rG (id:=1) [0,1,2,3,4,5,6,7,8,9,10,11,12,13,14,15,16,17,18,19,20] [] (by kernel_rfl) (by kernel_rfl) ?_);simp only[pick,map_cons,map_nil,getD_cons_succ,getD_cons_zero];(repeat' (first|go_big_quiet_step (fail)|(refine wpQuiet_step (fun K hK=>?_);go_simp;(first|(refine hK _ ?_;clear hK K)|(split<;>(refine hK _ ?_;clear hK K))))));all_goals (refine wpQuiet_nil ?_;clear k m c;intro w m k;have c:=HX.out w m.out.only))|((with_reducible refine wU ?_);clear k m c;intro w m k;have c:=HX.out w m.out.only)|((with_reducible refine lF (fun w _=>⟨rfl,?_⟩));simp[results,Tryz.results282,go_sem]))
  all_goals rfl
 ·have hlt:n<l.length:=by omega
  have HX:=hid (fun w' (o:Only [] w w')=>And.intro (xJ (o.got hF (by simp)) hL) (flS (o.got hF (by simp)) hL hT h8 hlt))
  have he:ZA l now=decide (now<l[n].tat):=by
   unfold ZA;rw[List.getLast?_eq_getElem?,hn,show n+1-1=n from rfl,List.getElem?_eq_getElem hlt]
  rw[he];rw[hn] at HX;generalize l[n]=x at HX;obtain⟨x1,x2,x3,x4⟩:=x;dsimp only at HX |-;have r1:IntKind.i64.wrap ((n:Int)+1-1)=(n:Int):=by rw[wrap_i64];omega
  have r2:IntKind.i64.wrap ((n:Int))=(n:Int):=by rw[wrap_i64];omega
  have r3:(0:Int)<(n:Int)+1:=by omega
  have r4:(n:Int)<8:=by omega
  have r5:n<8:=by omega
  clear hF hL hT h8 hn hlt he;have m:=dD w [];have k:=m.out.k;have c:=HX.out w (Only.refl [] w);go_enter Tryz.func282,Tryz.ntmps282
  go_wp2_with (first|((with_reducible refine rG (id:=1) [0,1,2,3,4,5,6,7,8,9,10,11,12,13,14,15,16,17,18,19,20] [] (by kernel_rfl) (by kernel_rfl) ?_);simp only[pick,map_cons,map_nil,getD_cons_succ,getD_cons_zero];(repeat' (first|go_big_quiet_step (fail)|(refine wpQuiet_step (fun K hK=>?_);go_simp;(first|(refine hK _ ?_;clear hK K)|(split<;>(refine hK _ ?_;clear hK K))))));all_goals (refine wpQuiet_nil ?_;clear k m c;intro w m k;have c:=HX.out w m.out.only))|((with_reducible refine wU ?_);clear k m c;intro w m k;have c:=HX.out w m.out.only)|((with_reducible refine lF (fun w _=>⟨rfl,?_⟩));simp[results,Tryz.results282,go_sem]))
def OsX (w0:World) (l:List iM) (e:Ending) (w:World):Prop:=∃ g cap,e=.returned (.slice (some ⟨g,0,none⟩) l.length cap)/\w0.heap.size<=g/\aP jR 180 4 w g cap (tF l)
theorem JI {w:World} {b:Nat} {f:Fl} (hf:jQ w b f) (h0:0<f.l.length) :
  Calls Tryz.prog 262 #[.pointer (some ⟨b,0,none⟩)] w fun e w'=>OsX w f.l e w'/\Only [] w w':=by
 obtain⟨L,sh,la,hL,hI,hT,h8,hF0⟩:=hf;obtain⟨tol,l⟩:=f;dsimp only at hT h8 hF0 |-;have hF:w.heap[b]? = some (.cells (jO tol L l.length sh la).toArray 183 (0,0)):=hF0;clear hF0 hI;have HX:=hid (fun w' (o:Only [] w w')=>xJ (o.got hF (by simp)) hL);have HC:=hid (fun w' (o:Only [] w w')=>cloneS (fl_row (o.got hF (by simp)) hL hT h8) h0 (by omega));have r1:(l.length:Int)<=8:=by omega
 have r2:(l.length:Int).toNat=l.length:=by simp
 have hl:=(nI l).length_eq;clear hF hL hT;obtain⟨wo,hwo⟩:∃ wo:World,wo=w:=⟨_,rfl⟩;subst hwo;have m:=dD wo [];have k:=m.out.k;have c:=HX.out wo (Only.refl [] wo);go_enter Tryz.func262,Tryz.ntmps262
 go_wp2_with ((with_reducible refine rG (id:=1) [0,1,2,3,4,5,6,7] [8,9] (by kernel_rfl) (by kernel_rfl) ?_);simp only[pick,map_cons,map_nil,getD_cons_succ,getD_cons_zero];(repeat' (first|go_big_quiet_step (fail)|(refine wpQuiet_step (fun K hK=>?_);go_simp;(first|(refine hK _ ?_;clear hK K)|(split<;>(refine hK _ ?_;clear hK K))))));all_goals (refine wpQuiet_nil ?_;clear k m c;intro w m k;have c:=HX.out w m.out.only))
 refine (HC.out _ m.out.only).mono ?_;rintro e w2 ⟨⟨g,cap,rfl,hge,hr⟩,ho2⟩;have O2:=hid (m.out.only.aB ho2);have HG:Hid (wo.heap.size<=g):=hid (Nat.le_trans m.out.only.size hge);have HS:=hid (sortS_x hr (by omega));clear k m c hge hr ho2;go_wp2_with fail
 refine HS.out.mono ?_;rintro e w3 ⟨rfl,hr,ho3⟩;have O3:=hid (O2.out.trans ho3 (fun x hx=>.inr (by rw[List.mem_singleton] at hx;rw[hx];exact HG.out)));have HR:=hid hr;clear ho3 hr;go_wp2;go_ret
 exact⟨⟨g,cap,rfl,HG.out,HR.out⟩,O3.out⟩
theorem pFDist (a c:iM) (h0: -9007199254740992<=a.off) (h1:a.off<=9007199254740992) (h2: -9007199254740992<=c.off) (h3:c.off<=9007199254740992) (w:World) :
  Calls Tryz.prog 263 #[vX a,vX c] w fun e w'=>e=.returned (.int .i64 (a.off-c.off).natAbs)/\Only [] w w':=by
 obtain⟨a1,a2,a3,a4⟩:=a;obtain⟨c1,c2,c3,c4⟩:=c;unfold vX;dsimp only at h0 h1 h2 h3 |-;have r1:IntKind.i64.wrap (a1-c1)=a1-c1:=by rw[wrap_i64];omega
 have HA:=hid (fun w=>jD (fabs (a1-c1) w (by omega) (by omega)));clear h0 h1 h2 h3;have m:=dD w [];have k:=m.out.k;go_enter Tryz.func263,Tryz.ntmps263
 go_wp2_with (first|((with_reducible first|refine cM (HA.out _) ?_|refine wU ?_);clear k m;intro w m k)|((with_reducible refine lF (fun w _=>⟨rfl,?_⟩));simp[results,Tryz.results263,go_sem]))
theorem aS.atS {w:World} {p:Option Addr} {n cap:Nat} {l:List iM} (hv:aS jR 4 w p n cap l) (h0:0<l.length):∃ b off,p=some ⟨b,off,none⟩/\b<w.heap.size/\∀ k (hk:k<l.length) w',Only [] w w'->b<w'.heap.size/\SmF w' b (off+k*4) l[k]:=by
 obtain⟨b,off,hp,hb,_⟩:=hv.cell 0 l[0] (List.getElem?_eq_getElem h0);refine⟨b,off,hp,hb,fun k hk w' ho=>?_⟩;obtain⟨b',off',hp',hb',h⟩:=hv.cell k l[k] (List.getElem?_eq_getElem hk);obtain⟨rfl,rfl⟩:b=b'/\off=off':=by rw[hp] at hp';simpa using hp'
 have g:∀ j v,(jR l[k])[j]? = some v->w'.cell? ⟨b,off+k*4+j,none⟩=some v:=fun j v hv=>by
  rw[ho.cell hb (by simp),Nat.add_assoc];exact h j v hv
 exact⟨Nat.lt_of_lt_of_le hb ho.size,g 0 _ rfl,g 1 _ rfl,g 2 _ rfl,g 3 _ rfl⟩
def DZ (y:Int) (l:List iM):Nat:=(l.map (fun s=>xC s.off y)).sum
theorem LM (y:Int):∀ l:List iM,DZ y l<=l.length*1152921504606846976
 | []=>by simp[DZ]
 | c::l=>by
  have h1:=LM y l;have h2:=vW c.off y;simp only[DZ,map_cons,List.sum_cons,List.length_cons] at *;omega
theorem sqS_bd2 {l:List iM} (h0:0<l.length) (j:Nat):DZ l[0].off (l.take j)<=(j-1)*1152921504606846976:=by
 cases l with
 | nil=>simp at h0
 | cons c r =>
  cases j with
  | zero=>simp[DZ]
  | succ j =>
   have h:=LM c.off (r.take j);have hl:(r.take j).length<=j:=by rw[List.length_take];omega
   have hm:=Nat.mul_le_mul_right 1152921504606846976 hl;have h2:DZ c.off ((c::r).take (j+1))=DZ c.off (r.take j):=by simp[DZ,xC]
   rw[List.getElem_cons_zero,h2,Nat.add_sub_cancel];exact Nat.le_trans h hm
theorem U1 (y:Int) (l:List iM) (c:iM):DZ y (l ++ [c])=DZ y l+xC c.off y:=by simp[DZ]
def jtS (l:List iM):Int:=if l.length<2 then 0 else (SX (DZ ((tF l).headD default).off (tF l) / (l.length-1)):Nat)
def SjI (w:World) (l:List iM) (y:Int) (vs vi:Value) (wr:World):Prop:=∃ k:Nat,k<=l.length/\vi=.int .i64 k/\vs=.int .i64 (DZ y (l.take k))/\Only [] w wr
theorem XR {w:World} {b:Nat} {f:Fl} (hf:jQ w b f) (hok:∀ s∈f.l,gD s=0)  :
  Calls Tryz.prog 128 #[.pointer (some ⟨b,0,none⟩)] w fun e w'=>e=.returned (.int .i64 (jtS f.l))/\Only [] w w':=by
 have HO:=hid (fun h w' (o:Only [] w w')=>JI (hf.kept o (by simp)) h);have hpm:=nI f.l;obtain⟨L,sh,la,hL,hI,hT,h8,hF0⟩:=hf;obtain⟨tol,l⟩:=f;dsimp only at hT h8 hF0 |-;have hF:w.heap[b]? = some (.cells (jO tol L l.length sh la).toArray 183 (0,0)):=hF0;clear hF0 hI;dsimp only at hok HO hpm;have HX:=hid (fun w' (o:Only [] w w')=>xJ (o.got hF (by simp)) hL);obtain⟨res,HE⟩:∃ r,Hid (jtS l=r):=⟨_,hid rfl⟩;rw[HE.out];unfold jtS at HE;clear hF hL hT;by_cases h2:l.length<2
 ·have q1:decide ((l.length:Int)<2)=true:=by simp;omega
  rw[if_pos h2] at HE;obtain rfl:=HE.out;have m:=dD w [];have k:=m.out.k;have c:=HX.out w (Only.refl [] w);go_enter Tryz.func128,Tryz.ntmps128
  go_wp2_with (first|((with_reducible refine rG (id:=7) [0,1,2,3,4,5,6] [] (by kernel_rfl) (by kernel_rfl) ?_);simp only[pick,map_cons,map_nil,getD_cons_succ,getD_cons_zero];(repeat' (first|go_big_quiet_step (fail)|(refine wpQuiet_step (fun K hK=>?_);go_simp;(first|(refine hK _ ?_;clear hK K)|(split<;>(refine hK _ ?_;clear hK K))))));all_goals (refine wpQuiet_nil ?_;clear k m c;intro w m k;have c:=HX.out w m.out.only))|((with_reducible refine wU ?_);clear k m c;intro w m k;have c:=HX.out w m.out.only)|((with_reducible refine lF (fun w _=>⟨rfl,?_⟩));simp[results,Tryz.results128,go_sem]))
 ·have q1:decide ((l.length:Int)<2)=false:=by simp;omega
  rw[if_neg h2] at HE;have HL:=hid (nI l).length_eq;have HP:=hid hpm;obtain⟨wo,hwo⟩:∃ wo:World,wo=w:=⟨_,rfl⟩;subst hwo;have m:=dD wo [];have k:=m.out.k;have c:=HX.out wo (Only.refl [] wo);go_enter Tryz.func128,Tryz.ntmps128
  go_wp2_with ((with_reducible refine wU ?_);clear k m c;intro w m k;have c:=HX.out w m.out.only)
  refine (HO.out (by omega) _ m.out.only).mono ?_;rintro e w2 ⟨⟨g,cap,rfl,hge,hr⟩,ho2⟩;have O2:=hid (m.out.only.aB ho2);have hol:∀ s∈tF l,gD s=0:=fun s hs=>hok s (HP.out.subset hs);generalize tF l=l2 at hr HE HL hol;have hln:=HL.out;rw[<-hln] at HE |-;obtain⟨b2,off,hp,hb,HC⟩:=(hr.eH iD rfl).atS (by omega);obtain⟨rfl,rfl⟩:g=b2/\0=off:=by simpa using hp
  have HX:=hid HC;have HK:=hid hol;have h02:0<l2.length:=by omega
  have h22:2<=l2.length:=by omega
  have h28:l2.length<=8:=by omega
  have he:l2.headD default=l2[0]'h02:=by cases l2 with|nil=>simp at h02|cons=>rfl
  rw[he] at HE;clear k m c HC hr ho2 hge hb hp hpm hok hol h2 h8 q1 HL HP HO hln he;go_wp2_with fail
  go_loopw [4,23] (fun vs vi wr=>SjI w2 l2 l2[0].off vs vi wr) (fun _ vi _=>l2.length-(intOf vi).toNat)
  case atStart=>exact⟨0,Nat.zero_le _,rfl,rfl,Only.refl _ _⟩
  case round =>
   obtain⟨j,hk,rfl,rfl,ho⟩:=hrel;have OO:=hid ho;have hsb:=LM l2[0].off (l2.take j);have hsc:=sqS_bd2 h02 j;rw[List.length_take] at hsb;by_cases hlt:j<l2.length
   ·have HX:=hid (fun w' (o:Only [] wr w')=>And.intro (HX.out j hlt w' (OO.out.aB o)) (HX.out 0 (by omega) w' (OO.out.aB o)))
    simp only[Nat.zero_mul,Nat.zero_add] at HX;have hz:=(qY.1 (HK.out _ (List.getElem_mem hlt))).1;have hy:=(qY.1 (HK.out _ (List.getElem_mem (show 0<l2.length by omega)))).1;have hq:=vW l2[j].off l2[0].off;have hm:=MJ l2[j].off l2[0].off;have HA:=hid (pFDist l2[j] l2[0] (by omega) (by omega) (by omega) (by omega));have HS:=hid (show DZ l2[0].off (l2.take (j+1))=DZ l2[0].off (l2.take j)+xC l2[j].off l2[0].off by rw[jB l2 hlt,U1]);generalize l2[0]=y at hy hq hm HS HX HA hsb hsc |-;generalize l2[j]=z at hz hq hm HS HX HA |-;obtain⟨y1,y2,y3,y4⟩:=y;obtain⟨z1,z2,z3,z4⟩:=z;unfold vX at HA;dsimp only at hq hm HS HX HA hsb hsc |-;have r2:IntKind.i64.wrap (xC z1 y1:Int)=(xC z1 y1:Int):=by rw[wrap_i64];omega
    have r4:IntKind.i64.wrap ((DZ y1 (l2.take j):Int)+(xC z1 y1:Int))=((DZ y1 (l2.take j)+xC z1 y1:Nat):Int):=by rw[wrap_i64];omega
    rw[<-HS.out] at r4;generalize hs2:DZ y1 (l2.take (j+1))=s2 at HS r4;have H2:=hid hs2;clear hs2;generalize DZ y1 (l2.take j)=s1 at HS r4 hsb hsc |-;generalize xC z1 y1=q at r2 r4 hm HS hq;generalize (z1-y1).natAbs=d at HA hm;clear hsb hsc hq hy hz;have m:=dD wr [];have k:=m.out.k;have c:=HX.out wr (Only.refl [] wr);go_wp2_with (first|((with_reducible first|refine cM (HA.out _) ?_|refine wU ?_);clear k m c;intro w m k;have c:=HX.out w m.out.only)|((with_reducible refine rG (id:=7) [0,1,2,3,4,5,6] [] (by kernel_rfl) (by kernel_rfl) ?_);simp only[pick,map_cons,map_nil,getD_cons_succ,getD_cons_zero];(repeat' (first|go_big_quiet_step (with_reducible first|exact gX (HA.out _))|(refine wpQuiet_step (fun K hK=>?_);go_simp;(first|(refine hK _ ?_;clear hK K)|(split<;>(refine hK _ ?_;clear hK K))))));all_goals (refine wpQuiet_nil ?_;clear k m c;intro w m k;have c:=HX.out w m.out.only))|(go_roundw;(case rel=>exact⟨j+1,by omega,by go_num,by rw[H2.out],OO.out.aB gO⟩);(case measure=>first|(simp[intOf];done)|(simp[intOf];omega))))
   ·obtain rfl:j=l2.length:=by omega
    rw[List.take_length] at hsb;rw[List.take_length];obtain⟨dv,hdv⟩:∃ dv,l2.length-1=dv:=⟨_,rfl⟩;have hdi:(l2.length:Int)-1=(dv:Int):=by omega
    have hd0:((dv:Int) == 0)=false:=by rw[beq_eq_false_iff_ne];omega
    have hd1:¬ (dv:Int)=0:=by omega
    have hs0:=U3 hsb hdv h22;rw[hdv] at HE;generalize DZ l2[0].off l2=s at hs0 hsb HE |-;have e0:(s:Int).tdiv (dv:Int)=((s / dv:Nat):Int):=by rw[Int.tdiv_eq_ediv_of_nonneg (by omega)];simp
    have e1:(s:Int) / (dv:Int)=((s / dv:Nat):Int):=by simp
    have HS:=hid (fun w=>jD (YZ (s / dv) w (by omega)));generalize s / dv=q at HS e0 e1 HE hs0;have e2:IntKind.i64.wrap (q:Int)=(q:Int):=by rw[wrap_i64];omega
    obtain rfl:=HE.out;clear hs0 hsb hsc;have m:=dD wr [];have k:=m.out.k;go_wp2_with (first|((with_reducible first|refine cM (HS.out _) ?_|refine wU ?_);clear k m;intro w m k)|((with_reducible refine lE (fun w o g k K hK=>⟨rfl,?_⟩));simp[results,Tryz.results128,go_sem];refine hK _ ?_;exact⟨rfl,O2.out.aB (OO.out.aB o)⟩))
def CS (f:Fl) (now:Int):iM × Int:=if f.l.length=0 then (uK,14) else if ZA f.l now=true then (uK,12) else uL ((tF f.l).headD default) now f.tol
theorem U8 {s:iM} {now tol:Int} (h:(uL s now tol).2≠0):(uL s now tol).1=uK:=by
 unfold uL at h |-;split
 ·split
  ·split
   ·rfl
   ·split
    ·rename_i h1 h2 h3 h4
     rw[if_pos h1,if_pos h2,if_neg h3,if_pos h4] at h;exact absurd rfl h
    ·rfl
  ·rfl
 ·rfl
theorem EI {α:Type} {l:List α} (h:0<l.length) (d:α):l.headD d=l[0]:=by
 cases l with
 | nil=>simp at h
 | cons=>rfl
theorem Y5 {tol n la:Int} {sh x:Bool} {L:List Value} (h:L.length=32):(jO tol L n sh la).set 34 (.bool x)=jO tol L n x la:=by
 rw[jO,show 34=33+1 from rfl,List.set_cons_succ,List.set_append_right _ _ (by omega),h];rfl
theorem flc_35 {tol n la x:Int} {sh:Bool} {L:List Value} (h:L.length=32):(jO tol L n sh la).set 35 (.int .i64 x)=jO tol L n sh x:=by
 rw[jO,show 35=34+1 from rfl,List.set_cons_succ,List.set_append_right _ _ (by omega),h];rfl
theorem qQ {w:World} {b:Nat} {tol n la:Int} {sh x:Bool} {L:List Value} {t:TypeId} (h:w.heap[b]? = some (.cells ((jO tol L n sh la).set 34 (.bool x)).toArray t (0,0))) (hL:L.length=32):FlF w b tol n x la:=xJ (by rwa [Y5 hL] at h) hL
theorem pBest {w:World} {b:Nat} {f:Fl} (hf:jQ w b f) (now:Int) :
  Calls Tryz.prog 260 #[.pointer (some ⟨b,0,none⟩),.int .i64 now] w fun e w'=>(∃ fr:Bool,e=.returned (.tuple #[vX (CS f now).1,.bool fr,.int .i64 (CS f now).2]))/\jQ w' b f/\Only [b] w w':=by
 have HEA:=hid (fun w' (h:jQ w' b f)=>pEarly h now);have HO:=hid (fun w' (h:jQ w' b f) h0=>JI h h0);have HG:=hid (pSGrow ((tF f.l).headD default) now f.tol);have HN:=hid (U8 (s:=(tF f.l).headD default) (now:=now) (tol:=f.tol));obtain⟨res,HE⟩:∃ r,Hid (CS f now=r):=⟨_,hid rfl⟩;rw[HE.out];unfold CS at HE;obtain⟨L,sh,la,hL,hI,hT,h8,hF0⟩:=hf;obtain⟨tol,l⟩:=f;dsimp only at hT h8 hF0 |-;have hF:w.heap[b]? = some (.cells (jO tol L l.length sh la).toArray 183 (0,0)):=hF0;clear hF0;dsimp only at HEA HO HG HE HN;have HFL:=hid (fun (w':World) (h:w'.heap[b]? = some (.cells (jO tol L l.length sh la).toArray 183 (0,0)))=>EP hL hI hT h8 h);have HFN:=hid (fun (w':World) (x:Bool) (y:Int) (h:w'.heap[b]? = some (.cells (((jO tol L l.length sh la).set 34 (.bool x)).set 35 (.int .i64 y)).toArray 183 (0,0)))=>EP (w:=w') (tol:=tol) (L:=L) (l:=l) (sh:=x) (la:=y) hL hI hT h8 (by rwa [Y5 hL,flc_35 hL] at h));have HL2:=hid (nI l).length_eq;by_cases h0:l.length=0
 ·have q0:((l.length:Int) == 0)=true:=by rw[h0];rfl
  rw[if_pos h0] at HE;obtain rfl:=HE.out;have m:=lQ hF;have k:=m.out.k;have c:=xJ hF hL;clear hF;go_enter Tryz.func260,Tryz.ntmps260
  go_wp2_with (first|((with_reducible refine wU ?_);clear k m;(try clear c);intro w m k;(first|have c:=xJ (gB (w:=w) (b:=b)) hL|have c:=qQ (gB (w:=w) (b:=b)) hL|skip))|((with_reducible refine lE (fun w o g k K hK=>⟨rfl,?_⟩));simp[results,Tryz.results260,go_sem,k];refine hK _ ?_;clear hK K k;skip;(first|exact⟨⟨_,rfl⟩,HFL.out w (Has.h w g),o⟩|exact⟨⟨_,rfl⟩,HFN.out w _ _ (Has.h w g),o⟩)))
 ·have q0:((l.length:Int) == 0)=false:=by rw[beq_eq_false_iff_ne];omega
  rw[if_neg h0] at HE;have h00:0<l.length:=by omega
  have HO:=hid (fun w' (h:w'.heap[b]? = some (.cells (jO tol L l.length sh la).toArray 183 (0,0)))=>(HO.out w' (HFL.out w' h) h00).mono (R':=fun e w''=>(∃ x:Nat × Nat,e=.returned (.slice (some ⟨x.1,0,none⟩) l.length x.2)/\(x.1<w''.heap.size/\SmF w'' x.1 0 ((tF l).headD default)))/\Only [] w' w'') (by
   rintro e w2 ⟨⟨g,cp,rfl,hge,hr⟩,ho⟩;refine⟨⟨(g,cp),rfl,?_⟩,ho⟩;have hl2:=HL2.out;obtain⟨b2,off,hp,hb,HC⟩:=(hr.eH iD rfl).atS (by omega);obtain⟨rfl,rfl⟩:g=b2/\0=off:=by simpa using hp
   have c:=HC 0 (by omega) w2 (Only.refl [] w2);rw[Nat.zero_mul,Nat.add_zero] at c;rw[EI (show 0<(tF l).length by omega)];exact c))
  have HEA:=hid (fun w' (h:w'.heap[b]? = some (.cells (jO tol L l.length sh la).toArray 183 (0,0)))=>HEA.out w' (HFL.out w' h));have hl1:(0:Int)<(l.length:Int):=by omega
  generalize (tF l).headD default=s0 at HG HO HE HN;generalize ZA l now=er at HEA HE;generalize uL s0 now tol=gs at HG HE HN;obtain⟨g1,ge⟩:=gs;obtain⟨s1,s2,s3,s4⟩:=s0;unfold vX at HG |-;dsimp only at HG HO HE HN |-
  cases er
  rotate_left
  focus
   obtain rfl:res=(uK,12):=by have:=HE.out;simpa using this.symm
   clear HE HN HG;have m:=lQ hF;have k:=m.out.k;have c:=xJ hF hL;clear hF hI hT h8
  rotate_left
  focus
   obtain rfl:res=(g1,ge):=by have:=HE.out;simpa using this.symm
   clear HE;have m:=lQ hF;have k:=m.out.k;have c:=xJ hF hL;clear hF hI hT h8;by_cases hge:ge=0
   rotate_left
   focus
    have q1:(ge != 0)=true:=by simpa using hge
    obtain rfl:=HN.out hge;clear HN hge
   rotate_left
   focus
    subst hge;clear HN;obtain⟨g11,g12,g13,g14⟩:=g1;dsimp only at HG |-
   rotate_left
  rotate_left 2
  all_goals
   go_enter Tryz.func260,Tryz.ntmps260
   go_wp2_with (first|((with_reducible first|refine cU ?_|refine cM (HEA.out _ gB) ?_|refine wU ?_);clear k m;(try clear c);intro w m k;(first|have c:=xJ (gB (w:=w) (b:=b)) hL|have c:=qQ (gB (w:=w) (b:=b)) hL|skip))|((with_reducible refine cX (HO.out w gB) ?_);clear k m;(try clear c);intro w x c2 o m k;have c:=xJ (gB (w:=w) (b:=b)) hL;obtain⟨g,cp⟩:=x;dsimp only at c2 |-;clear o)|((with_reducible refine rA (id:=8) [0,1,2,3,4,5,6,7,8] [9] 10 [11,12] (by kernel_rfl) (by kernel_rfl) ?_);simp only[pick,map_cons,map_nil,getD_cons_succ,getD_cons_zero];(repeat (first|(refine aO (fun K hK=>?_);go_simp;refine hK _ ?_;clear hK K)|(refine cG (by kernel_rfl) ⟨_,_,_,fun w=>by go_simp,fun w' o=>HG.out w',?_⟩)));refine aR ?_;(repeat (refine aJ (fun K hK=>?_);go_simp;refine hK _ ?_;clear hK K));refine aN ?_;clear k m;intro w o m k;refine aC rfl ?_;go_wp2;simp only[bG];refine⟨o.alloc _,tW ?_⟩;clear o;clear k m;(try clear c);intro w m k;(first|have c:=xJ (gB (w:=w) (b:=b)) hL|have c:=qQ (gB (w:=w) (b:=b)) hL|skip);unfold aV;refine aC rfl ?_;go_wp2;simp only[bG];refine tW ?_;clear k m;(try clear c);intro w m k;(first|have c:=xJ (gB (w:=w) (b:=b)) hL|have c:=qQ (gB (w:=w) (b:=b)) hL|skip);unfold aV;refine aC rfl ?_;go_wp2;simp only[bG];refine tW ?_;clear k m;(try clear c);intro w m k;(first|have c:=xJ (gB (w:=w) (b:=b)) hL|have c:=qQ (gB (w:=w) (b:=b)) hL|skip);unfold aV)|((with_reducible refine rG (id:=11) [0,1,2,3,4,5,6,7,8,9,10,11,12,13,14] [] (by kernel_rfl) (by kernel_rfl) ?_);simp only[pick,map_cons,map_nil,getD_cons_succ,getD_cons_zero];(repeat' (first|go_big_quiet_step (fail)|(refine wpQuiet_step (fun K hK=>?_);go_simp;(first|(refine hK _ ?_;clear hK K)|(split<;>(refine hK _ ?_;clear hK K))))));all_goals (refine wpQuiet_nil ?_;clear k m;(try clear c);intro w m k;(first|have c:=xJ (gB (w:=w) (b:=b)) hL|have c:=qQ (gB (w:=w) (b:=b)) hL|skip)))|((with_reducible refine rX (id:=13) [0,1,2,4,5] [3,6,9] 5 (by kernel_rfl) (by kernel_rfl) ?_);simp only[pick,map_cons,map_nil,getD_cons_succ,getD_cons_zero];(repeat (refine aJ (fun K hK=>?_);go_simp;refine hK _ ?_;clear hK K));refine aN ?_;clear k m;(try clear c);intro w m k;(first|have c:=xJ (gB (w:=w) (b:=b)) hL|have c:=qQ (gB (w:=w) (b:=b)) hL|skip);refine xN [3,6] (by kernel_rfl) ?_;simp only[mem_cons,not_mem_nil,or_false,forall_eq_or_imp,forall_eq];refine⟨?_,?_⟩;(focus (refine aC rfl ?_;go_wp2;simp only[bG];refine⟨aQ (by kernel_rfl),tW ?_⟩;clear k m;(try clear c);intro w m k;(first|have c:=xJ (gB (w:=w) (b:=b)) hL|have c:=qQ (gB (w:=w) (b:=b)) hL|skip);refine xN [6] (by kernel_rfl) ?_;simp only[mem_cons,not_mem_nil,or_false,forall_eq];refine aC rfl ?_;go_wp2;simp only[bG];refine⟨aQ (by kernel_rfl),tW ?_⟩;clear k m;(try clear c);intro w m k;(first|have c:=xJ (gB (w:=w) (b:=b)) hL|have c:=qQ (gB (w:=w) (b:=b)) hL|skip);refine xN [7] (by kernel_rfl) ?_;simp only[mem_cons,not_mem_nil,or_false,forall_eq];refine aC rfl ?_;go_wp2;simp only[bG];refine⟨aQ (by kernel_rfl),tW ?_⟩;clear k m;(try clear c);intro w m k;(first|have c:=xJ (gB (w:=w) (b:=b)) hL|have c:=qQ (gB (w:=w) (b:=b)) hL|skip);refine xN [8] (by kernel_rfl) ?_;simp only[mem_cons,not_mem_nil,or_false,forall_eq];refine aC rfl ?_;go_wp2;simp only[bG];refine⟨aQ (by kernel_rfl),tW ?_⟩;clear k m;(try clear c);intro w m k;(first|have c:=xJ (gB (w:=w) (b:=b)) hL|have c:=qQ (gB (w:=w) (b:=b)) hL|skip);refine xN [9] (by kernel_rfl) ?_;simp only[mem_cons,not_mem_nil,or_false,forall_eq];refine aC rfl ?_;go_wp2;simp only[bG];refine⟨aQ (by kernel_rfl),tW ?_⟩;clear k m;(try clear c);intro w m k;(first|have c:=xJ (gB (w:=w) (b:=b)) hL|have c:=qQ (gB (w:=w) (b:=b)) hL|skip);unfold RD));rotate_left 1;(focus (refine aC rfl ?_;go_wp2;simp only[bG];refine⟨aQ (by kernel_rfl),tW ?_⟩;clear k m;(try clear c);intro w m k;(first|have c:=xJ (gB (w:=w) (b:=b)) hL|have c:=qQ (gB (w:=w) (b:=b)) hL|skip);refine xN [3] (by kernel_rfl) ?_;simp only[mem_cons,not_mem_nil,or_false,forall_eq];refine aC rfl ?_;go_wp2;simp only[bG];refine⟨aQ (by kernel_rfl),tW ?_⟩;clear k m;(try clear c);intro w m k;(first|have c:=xJ (gB (w:=w) (b:=b)) hL|have c:=qQ (gB (w:=w) (b:=b)) hL|skip);refine xN [7] (by kernel_rfl) ?_;simp only[mem_cons,not_mem_nil,or_false,forall_eq];refine aC rfl ?_;go_wp2;simp only[bG];refine⟨aQ (by kernel_rfl),tW ?_⟩;clear k m;(try clear c);intro w m k;(first|have c:=xJ (gB (w:=w) (b:=b)) hL|have c:=qQ (gB (w:=w) (b:=b)) hL|skip);refine xN [8] (by kernel_rfl) ?_;simp only[mem_cons,not_mem_nil,or_false,forall_eq];refine aC rfl ?_;go_wp2;simp only[bG];refine⟨aQ (by kernel_rfl),tW ?_⟩;clear k m;(try clear c);intro w m k;(first|have c:=xJ (gB (w:=w) (b:=b)) hL|have c:=qQ (gB (w:=w) (b:=b)) hL|skip);refine xN [9] (by kernel_rfl) ?_;simp only[mem_cons,not_mem_nil,or_false,forall_eq];refine aC rfl ?_;go_wp2;simp only[bG];refine⟨aQ (by kernel_rfl),tW ?_⟩;clear k m;(try clear c);intro w m k;(first|have c:=xJ (gB (w:=w) (b:=b)) hL|have c:=qQ (gB (w:=w) (b:=b)) hL|skip);unfold RD));rotate_left 1)|((with_reducible refine lE (fun w o g k K hK=>⟨rfl,?_⟩));simp[results,Tryz.results260,go_sem,k];refine hK _ ?_;clear hK K k;skip;(first|exact⟨⟨_,rfl⟩,HFL.out w (Has.h w g),o⟩|exact⟨⟨_,rfl⟩,HFN.out w _ _ (Has.h w g),o⟩)))
end
end Go.Proofs.YthbgcpfklmlnjaaGreat
