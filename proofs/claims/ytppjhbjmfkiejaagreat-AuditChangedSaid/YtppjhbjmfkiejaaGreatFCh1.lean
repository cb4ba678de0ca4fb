/- Ch1 Ch2 Ch3 -/
import Derived.Test.YtppjhbjmfkiejaaGreatFId
import Derived.Test.YtppjhbjmfkiejaaGreatShelf
import Derived.Test.YtppjhbjmfkiejaaGreatCmpF
namespace Go.Proofs.YtppjhbjmfkiejaaGreat
set_option linter.all false
open List (getElem?_eq_getElem length_map length_take mem_map)
open IntKind (wrap_i64)
set_option maxRecDepth 100000
set_option maxHeartbeats 8000000
open Go.RowKit Go.Sort
open IntKind (wrap)
theorem BL {α:Type} {enc:α->List Value} {s:Nat} {w:World} {p:Option Addr} {n cap:Nat} {l:List α} (hv:aU enc s w p n cap l) {k:Nat} {x:α} (hk:l[k]? = some x) :
  ∃ b off,p=some ⟨b,off,none⟩/\∀ w',Oy [] w w'->b<w'.heap.size/\∀ (j:Nat) u,(enc x)[j]? = some u->w'.cell? ⟨b,off+k*s+j,none⟩=some u:=by
 obtain⟨b,off,hp,hb,hc⟩:=hv.cell k x hk;refine⟨b,off,hp,fun w' ho=>⟨Nat.lt_of_lt_of_le hb ho.size,fun j u hj=>?_⟩⟩;rw[ho.cell hb (by simp),Nat.add_assoc];exact hc j u hj
theorem LG {zs:List Int} {x:Int} (h:x∈Lib.compact zs):x∈zs:=by
 unfold Lib.compact Lib.compactUpTo at h;obtain⟨j,hj,rfl⟩:=mem_map.1 h;have hl:=List.mem_range.1 (List.mem_filter.1 hj).1;simp[hl]
theorem OE (zs:List Int):(Lib.compact zs).length<=zs.length:=by
 unfold Lib.compact Lib.compactUpTo;rw[length_map];exact Nat.le_trans (List.length_filter_le _ _) (by rw[List.length_range];exact Nat.le_refl _)
theorem J5 {f:Int->Value} {w:World} {g n o:Nat} {cur:Array Value} {e:TypeId} {z:Nat × Nat} {d:Array Int} (h:w.heap[g]? = some (.cells cur e z)) :
  (putRow f (Sort.ahead w n) g o d).heap[g]? = some (.cells (putCells f o d cur) e z):=by
 show (w.heap.modify g (onCells (putCells f o d)))[g]? = _
 rw[Array.getElem?_modify,if_pos rfl,h];rfl
theorem J4 {f:Int->Value} {w:World} {g n o:Nat} {d:Array Int}:Oy [g] w (putRow f (Sort.ahead w n) g o d):=by
 refine⟨rfl,rfl,rfl,?_,fun k hk hn=>?_⟩
 ·show w.heap.size<=(w.heap.modify g (onCells (putCells f o d))).size
  simp
 ·show (w.heap.modify g (onCells (putCells f o d)))[k]? = _
  rw[Array.getElem?_modify,if_neg (fun e=>hn (by simp[e]))]
theorem UA {w:World} {B:Nat} {v:Value} {l:List Int} (h:Own fC 3 1 B w v l) (hl:l.length<=1000000) :
  Calls Tryz.prog 73 #[v] w fun e w'=>∃ v' l',e=.returned v'/\Own fC 3 1 B w' v' l'/\l'.length<=l.length/\(∀ x∈l',x∈l)/\Oy v.ownBlock.toList w w':=by
 rcases h with ⟨rfl,rfl⟩|⟨g,cap,rfl,hB,cur,hg,h1,h2,h3,h4⟩
 ·refine (AnyG.slices_Compact_int_empty Tryz.layCompact none 0 w).mono ?_
  rintro e w' ⟨rfl,rfl⟩;exact⟨_,[],rfl,bR _ _,Nat.le_refl _,fun x h=>h,aR _ _⟩
 ·rw[Nat.mul_one] at h1 h4
  have hold:Holds (Value.int .i64) w g 0 l.toArray:=by
   intro j hj;rw[Nat.zero_add];refine⟨?_,aM hg j⟩;have hj':j<l.length:=by simpa using hj
   rw[aC hg,<-Array.getElem?_toList,<-List.getElem?_take_of_lt hj',h4,sD];simp[hj']
  refine (AnyG.slices_Compact_int Tryz.layCompact g 0 cap l w hold (by omega) h2).mono ?_;rintro e w' ⟨rfl,q,rfl⟩;have hc:=OE l;refine⟨_,Lib.compact l,rfl,.inr ⟨g,cap,rfl,hB,_,J5 hg,by rw[jN];omega,by omega,h3,?_⟩,hc,fun x=>LG,by simpa [Value.ownBlock] using J4⟩;have hp:=jM (Value.int .i64) (Lib.compact l ++ List.replicate (l.length-(Lib.compact l).length) 0).toArray cur (by simp;omega);have hs:(Lib.compact l ++ List.replicate (l.length-(Lib.compact l).length) 0).toArray.size=l.length:=by simp;omega
  rw[hs] at hp;rw[Nat.mul_one,sD,show ∀ X:List Value,X.take (Lib.compact l).length=(X.take l.length).take (Lib.compact l).length from fun X=>by rw[List.take_take,Nat.min_eq_left hc],hp];simp
section
theorem ft_nd {x:Ft} (h:IU x=0):0<=x.n/\x.n<24:=by
 unfold IU at h;obtain⟨h1,_⟩:=rE h (by decide);have:=bI.1 h1.1;omega
theorem pNodesW {w:World} {l:List Ft} {p:Option Addr} {cp:Nat} (hf:aU ftC 5 w p l.length cp l) (hc:tX l=0) :
  Calls Tryz.prog 48 #[.slice p l.length cp] w fun e w'=>∃ v l',e=.returned v/\Own wN 3 1 w.heap.size w' v l'/\l'.length<=l.length/\(∀ x∈l',0<=x/\x<24)/\Oy [] w w':=by
 have HFC:=aA (fun w' (o:Oy [] w w')=>NG (hf.kept o) (by have:=(wB hc).1;omega));rw[hc] at HFC;have HV:=aA hf;have hl:=(wB hc).1;have HND:=aA (fun f hm=>ft_nd ((wB hc).2 f hm));clear hf hc;obtain⟨wo,rfl⟩:∃ wo:World,wo=w:=⟨_,rfl⟩;have m:=bJ wo [];have k:=m.zK;go_enter Tryz.func48,Tryz.ntmps48
 go_wp2_with ((with_reducible first|refine cM (HFC.out _ gO) ?_|refine cU ?_|refine wU ?_);clear k m;intro w m k)
 have OB:=aA m.zO;clear k m;obtain⟨wl,rfl⟩:∃ wl:World,wl=w:=⟨_,rfl⟩;go_loopw [3,11] (fun va vi wr=>∃ i:Nat,i<=l.length/\vi=.int .i64 i/\Own wN 3 1 wl.heap.size wr va ((l.take i).map (fun x=>x.n))/\Oy [] wl wr) (fun va vi _=>l.length-(intOf vi).toNat)
 case atStart=>exact⟨0,Nat.zero_le _,rfl,bR _ _,aR _ _⟩
 case round =>
  obtain⟨i,hi,rfl,hown,ho⟩:=hrel;have O1:=aA ho;have OW:=aA hown;obtain⟨pa,ca,rfl,-⟩:=hown.dI oQ;clear ho hown;by_cases hlt:i<l.length
  ·have hlt3:(i:Int)<(l.length:Int):=by omega
   have ei:wrap .i64 ((i:Int)+1)=((i+1:Nat):Int):=by rw[wrap_i64];omega
   obtain⟨bk,off,rfl,hz⟩:=BL HV.out (getElem?_eq_getElem hlt)
   have HT:=aA (show (l.take (i+1)).map (fun x=>x.n)=(l.take i).map (fun x=>x.n) ++ [l[i].n] by
    rw[eO l hlt,List.map_append];rfl)
   have hal:((l.take i).map (fun x=>x.n)).length<=i:=by rw[length_map,length_take];omega
   generalize (l.take i).map (fun x=>x.n)=acc at OW HT hal;generalize l[i]=x at hz HT;obtain⟨x0,x1,x2,x3,x4⟩:=x
   have HX:=aA (show ∀ w',Oy [] wr w'->bk<w'.heap.size/\w'.cell? ⟨bk,off+i*5,none⟩=some (.int .i64 x0)/\w'.cell? ⟨bk,off+i*5+1,none⟩=some (.int .i64 x1)/\w'.cell? ⟨bk,off+i*5+2,none⟩=some (.int .i64 x2)/\w'.cell? ⟨bk,off+i*5+3,none⟩=some (.int .i64 x3)/\w'.cell? ⟨bk,off+i*5+4,none⟩=some (.int .i64 x4) from fun w' o =>
    have z:=hz w' ((OB.out.aB O1.out).aB o)
    ⟨z.1,z.2 0 _ rfl,z.2 1 _ rfl,z.2 2 _ rfl,z.2 3 _ rfl,z.2 4 _ rfl⟩)
   clear hz;dsimp only at HT;have m:=bJ wr [];have k:=m.zK;have c:=HX.out wr (aR _ _);go_wp2_with (first|((with_reducible first|refine cU ?_|refine wU ?_);clear k m c;intro w m k;have c:=HX.out w m.zO)|(at_builtin;refine aW ?_))
   refine aG (G:=fun w0=>Stop (wpList _ _ _ _ _ w0)) ?_;intro w5 hb5 ho5 hs5;rw[World.size_alloc] at hb5;have B5:=aA hb5;have O5:=aA ((O1.out.aB ((aR [] wr).alloc _)).aB ho5);have R5:=aA (OW.out.kept (((aR [] wr).alloc _).aB ho5));clear hb5 ho5 hs5 m k c;refine bH ?_;refine bQ (B:=wl.heap.size) rfl _ _ 52 rfl 3 (.int .i64 0) 1 8 Tryz.underlying52 (by kernel_rfl) rfl (by decide) wN oQ IL acc _ rfl R5.out _ x0 rfl (fun j u hj=>by rw[aC B5.out,<-hj];simp[wN]) (by simp[maxLen];omega) (by omega) O5.out.size ?_;intro v6 w6 hown6 hk6 ho6;have W6:=aA hown6;have O6:=aA (O5.out.trans ho6 fun x hx=>.inr (R5.out.DU x hx).1);clear hown6 hk6 ho6;go_wp2;go_roundw
   case rel=>exact⟨i+1,by omega,by go_num,(by rw[HT.out];exact W6.out),O6.out⟩
   case measure=>first|(simp[intOf];done)|(simp[intOf];omega)
  ·obtain rfl:i=l.length:=by omega
   have hlt2:decide ((l.length:Int)<(l.length:Int))=false:=by simp
   rw[List.take_length] at OW |-
   have HMM:=aA (show ∀ x∈l.map (fun x=>x.n),0<=x/\x<24 from fun x hx=>by
    obtain⟨f,hf,rfl⟩:=mem_map.1 hx;exact HND.out f hf)
   have HML:=aA (show (l.map (fun x=>x.n)).length=l.length from length_map _);generalize l.map (fun x=>x.n)=L at OW HMM HML |-;have HSO:=aA (fun w' (o:Oy [] wr w')=>BG (OW.out.kept o) (by have:=HML.out;omega));have m:=bJ wr [];have k:=m.zK;go_wp2_with ((with_reducible first|refine cU ?_|refine wU ?_);clear k m;intro w m k)
   refine (HSO.out _ m.zO).mono ?_;rintro r w4 ⟨rfl,hso,o4⟩;have HA:=aA (fun x hx=>(OW.out.DU x hx).1);have O4:=aA ((O1.out.aB m.zO).trans o4 (fun x hx=>.inr (HA.out x hx)));have HSW:=aA hso;clear k m hso o4;have m:=bJ w4 [];have k:=m.zK;go_wp2_with ((with_reducible first|refine cU ?_|refine wU ?_);clear k m;intro w m k)
   refine (UA (HSW.out.kept m.zO) (by rw[List.length_mergeSort];have:=HML.out;omega)).mono ?_;rintro r w5 ⟨v5,l5,rfl,h5,hl5,hm5,o5⟩;have O5:=aA ((O4.out.aB m.zO).trans o5 (fun x hx=>.inr (HA.out x hx)));have W5:=aA (show Own wN 3 1 wl.heap.size w5 v5 l5 from h5);have HM5:=aA (show ∀ x∈l5,0<=x/\x<24 from fun x hx=>HMM.out x (List.mem_mergeSort.1 (hm5 x hx)));have HL5:=aA (show l5.length<=l.length by rw[List.length_mergeSort] at hl5;have:=HML.out;omega);clear k m h5 hl5 hm5 o5;have m:=bJ w5 [];have k:=m.zK;go_wp2_with (first|((with_reducible first|refine cU ?_|refine wU ?_);clear k m;intro w m k)|((with_reducible refine lE (fun w o g k K hK=>⟨rfl,?_⟩));simp[results,Tryz.results48,go_sem];refine hK _ ?_;exact⟨_,_,rfl,(W5.out.kept o).lower OB.out.size,HL5.out,HM5.out,(OB.out.aB O5.out).aB o⟩))
end
section
structure MB (w:World) (b:Nat) (ss:List (List Int)):Prop where
 lt:b<w.heap.size
 get:∀ (i:Nat) l,ss[i]? = some l->∃ p c,w.cell? ⟨b,i,none⟩=some (.slice p l.length c)/\aU wN 1 w p l.length c l/\l.length<=1000000
theorem MB.kept {w w':World} {b:Nat} {ss:List (List Int)} {S:List Nat} (h:MB w b ss) (o:Oy S w w') (hS:∀ x∈S,w.heap.size<=x):MB w' b ss:=by
 have o':Oy [] w w':=(aR [] w).trans o (fun x hx=>.inr (hS x hx));refine⟨Nat.lt_of_lt_of_le h.lt o.size,fun i l hl=>?_⟩;obtain⟨p,c,h1,h2,h3⟩:=h.get i l hl;exact⟨p,c,by rw[o'.cell h.lt (by simp)];exact h1,h2.kept o',h3⟩
def UnQ (ss:List (List Int)) (l:List Ft):Prop:=l=[]/\∀ (i:Nat) li,ss[i]? = some li->N9 li (List.replicate ss.length false)=false
def DC (bs:List Bool):Nat:=(bs.filter (fun b=>!b)).length
theorem LH:∀ {bs:List Bool} {i:Nat},bs[i]? = some false->DC (bs.set i true)+1=DC bs
 | [],_,h=>by simp at h
 |b::r,0,h=>by
  simp only[List.getElem?_cons_zero,Option.some.injEq] at h;subst h;simp[DC]
 |b::r,i+1,h=>by
  have ih:=LH (bs:=r) (i:=i) (by simpa using h);unfold DC at ih |-;rw[List.set_cons_succ,List.filter_cons,List.filter_cons];split
  ·rw[List.length_cons,List.length_cons,ih]
  ·exact ih
theorem TR {w:World} {ss:List (List Int)} {b:Nat} (hs:MB w b ss) (n0:1<=ss.length) (n1:ss.length<=24) {l:List Ft} {p:Option Addr} {cp cs:Nat} (hf:aU ftC 5 w p l.length cp l) (hc:tX l=0) :
  Calls Tryz.prog 26 #[.int .i64 ss.length,.slice (some ⟨b,0,none⟩) ss.length cs,.slice p l.length cp] w fun e w'=>∃ v l',e=.returned v/\Own wN 3 1 w.heap.size w' v l'/\l'.length<=24/\(UnQ ss l->l'=[])/\Oy [] w w':=by
 have HND:=aA (fun w' (o:Oy [] w w')=>pNodesW (hf.kept o) hc);have HS:=aA hs;have hl32:=(wB hc).1;obtain⟨n,hn⟩:∃ n,ss.length=n:=⟨_,rfl⟩;rw[hn] at n0 n1 |-;have HN:=aA hn;have dn:(1:Int)<=(n:Int):=by omega
 have dn0:decide ((n:Int)<1)=false:=dL (by omega);have dn3:(n:Int)<=24:=by omega
 have dn1:decide (24<(n:Int))=false:=dL (by omega);clear hf hc hs hn;obtain⟨wo,rfl⟩:∃ wo:World,wo=w:=⟨_,rfl⟩;have m:=bJ wo [];have k:=m.zK;go_enter Tryz.func26,Tryz.ntmps26
 go_wp2_with ((with_reducible first|refine cU ?_|refine wU ?_);clear k m;intro w m k)
 have hlw:=aF (gB (w:=w) (b:=wo.heap.size));refine (HND.out _ gO).mono ?_;rintro r w2 ⟨v,ls,rfl,hown,hl2,hmm,o2⟩;have HQL:=aA (show UnQ ss l->ls=[] from fun q=>List.length_eq_zero_iff.1 (by have:=q.1;subst this;simpa using hl2));replace m:Mm wo [] w2 _:=⟨m.out.call o2⟩;have HMM:=aA hmm;have OB:=aA m.zO;obtain⟨pv,cv,rfl,hv⟩:=hown.dI oQ;have HV:=aA hv
 have HGE:=aA (show ∀ bk off,pv=some ⟨bk,off,none⟩->wo.heap.size<bk from fun bk off e=>by
  subst e;have:=(hown.DU bk (by simp[Value.ownBlock])).1;omega)
 have hbw:=gB (w:=w2) (b:=wo.heap.size);obtain⟨bw,hbwo⟩:∃ bw,wo.heap.size=bw:=⟨_,rfl⟩;rw[hbwo] at hbw HGE |-;have HBW:=aA hbwo;have H0:=aA (show aO boC 143 1 w2 bw 24 (List.replicate 24 false) from ⟨_,hbw,rfl,by decide,by decide,rfl⟩);clear k m hown hmm hv o2 HND hbw hbwo hlw;have m:=bJ w2 [];have k:=m.zK;go_wp2_with ((with_reducible first|refine cU ?_|refine wU ?_);clear k m;intro w m k)
 clear k m;obtain⟨wl,rfl⟩:∃ wl:World,wl=w2:=⟨_,rfl⟩;go_loopw [24] (fun vi wr=>∃ (i:Nat) (bs:List Bool),i<=ls.length/\vi=.int .i64 i/\bs.length=24/\aO boC 143 1 wr bw 24 bs/\Oy [bw] wl wr/\(UnQ ss l->bs=List.replicate 24 false)) (fun vi _=>ls.length-(intOf vi).toNat)
 case atStart=>exact⟨0,_,Nat.zero_le _,rfl,List.length_replicate,H0.out,aR _ _,fun _=>rfl⟩
 case round =>
  obtain⟨i,bs,hi,rfl,hb,hr,ho,hq⟩:=hrel;have HQ1:=aA hq;clear hq;have HR:=aA hr;have O1:=aA ho;clear hr ho;by_cases hlt:i<ls.length
  ·have hlt3:(i:Int)<(ls.length:Int):=by omega
   have ei:wrap .i64 ((i:Int)+1)=((i+1:Nat):Int):=by rw[wrap_i64];omega
   obtain⟨bk,off,rfl,hz⟩:=BL HV.out (getElem?_eq_getElem hlt);have hge:=HGE.out bk off rfl;obtain⟨y0,y1⟩:=HMM.out _ (List.getElem_mem hlt);obtain⟨x,hx⟩:∃ x:Nat,ls[i]=(x:Int):=⟨ls[i].toNat,by omega⟩;rw[hx] at hz y1;have hxl:x<bs.length:=by omega
   have hz0:=hz wl (aR [] wl);have lk:bk<wr.heap.size:=Nat.lt_of_lt_of_le hz0.1 O1.out.size
   have ck:wr.cell? ⟨bk,off+i,none⟩=some (.int .i64 (x:Int)):=by
    rw[O1.out.cell hz0.1 (by simp;omega)];simpa using hz0.2 0 _ rfl
   have lw:bw<wr.heap.size:=HR.out.lt
   have cw:wr.cell? ⟨bw,x,none⟩=some (.bool bs[x]):=by
    have:=HR.out.cell sM (i:=x) (j:=0) (x:=bs[x]) (getElem?_eq_getElem hxl) (by decide);simpa [boC] using this
   have fz:wr.frozen? ⟨bw,x,none⟩=false:=HR.out.frozen _;have hx24:(x:Int)<24:=by omega
   have HR2:=aA (aO.set1 (f:=Value.bool) HR.out (i:=x) hxl true);clear hz hz0 hx y0 y1;go_wp2_with fail
   go_roundw
   case rel=>exact⟨i+1,bs.set x true,by omega,by go_num,by rw[List.length_set];exact hb,HR2.out,O1.out.trans ((aR [bw] wr).setCell (.inl (by simp)) _) (fun q hq=>.inl hq),fun q=>absurd hlt (by rw[HQL.out q];simp)⟩
   case measure=>first|(simp[intOf];done)|(simp[intOf];omega)
  ·obtain rfl:i=ls.length:=by omega
   have hlt2:decide ((ls.length:Int)<(ls.length:Int))=false:=by simp
   go_wp2_with fail
   go_loopg [10] 50 (fun g vc wr=>∃ (bs:List Bool) (ch:Bool),vc=.bool ch/\bs.length=24/\aO boC 143 1 wr bw 24 bs/\Oy [bw] wl wr/\(UnQ ss l->bs=List.replicate 24 false)/\2*DC bs+(if ch=true then 1 else 0)<=g)
   case atStart=>exact⟨bs,true,rfl,hb,HR.out,O1.out,HQ1.out,by have:=List.length_filter_le (fun b=>!b) bs;unfold DC;rw[if_pos rfl];omega⟩
   case round =>
    obtain⟨bs0,ch,rfl,hb0,hr,ho,hq,hg⟩:=hrel;have HQ2:=aA hq;clear hq;have HR0:=aA hr;have O2:=aA ho;have OW:=aA ((OB.out.weak (S':=[bw]) (by simp)).trans ho (fun q hq=>.inl hq));have OZ:=aA ((aR [] wo).trans OW.out (fun q hq=>.inr (by rw[List.mem_singleton.1 hq,<-HBW.out];exact Nat.le_refl _)));clear hr ho
    cases ch with
    | false =>
     clear hg;have hlk:(bs0.take n).length=n:=by rw[length_take];omega
     have HT:=aA (HR0.out.take sM n);obtain⟨wq,rfl⟩:∃ wq:World,wq=wr:=⟨_,rfl⟩;have jI:=HR0.out.lt;go_wp2_with fail
     go_loopw [12,58] (fun va vi wr3=>∃ (i:Nat) (acc:List Int),i<=n/\vi=.int .i64 i/\Own wN 3 1 wq.heap.size wr3 va acc/\acc.length<=i/\(UnQ ss l->acc=[])/\Oy [] wq wr3) (fun va vi _=>n-(intOf vi).toNat)
     case atStart=>exact⟨0,[],Nat.zero_le _,rfl,bR _ _,Nat.le_refl _,fun _=>rfl,aR _ _⟩
     case round =>
      obtain⟨i,acc,hi,rfl,hown,hal,hq,ho⟩:=hrel;have HQ3:=aA hq;clear hq;have O3:=aA ho;have OWN:=aA hown;obtain⟨pa,ca,rfl,-⟩:=hown.dI oQ;clear ho hown;by_cases hlt:i<n
      ·have hlt3:(i:Int)<(n:Int):=by omega
       have ei:wrap .i64 ((i:Int)+1)=((i+1:Nat):Int):=by rw[wrap_i64];omega
       have hr3:=HR0.out.kept O3.out (by simp);have lw:bw<wr.heap.size:=hr3.lt;have hil:i<bs0.length:=by omega
       obtain⟨bi,hbi⟩:∃ bi,bs0[i]=bi:=⟨_,rfl⟩
       have cw:wr.cell? ⟨bw,i,none⟩=some (.bool bi):=by
        have:=hr3.cell sM (i:=i) (j:=0) (x:=bs0[i]) (getElem?_eq_getElem hil) (by decide);rw[hbi] at this;simpa [boC] using this
       have HB:=aA (show UnQ ss l->bi=false from fun q=>by
        have h:bs0[i]? = some bi:=by rw[getElem?_eq_getElem hil,hbi]
        rw[HQ2.out q,List.getElem?_replicate] at h;split at h
        ·exact (Option.some.inj h).symm
        ·cases h)
       clear hbi hr3
       cases bi with
       | false =>
        go_wp2_with fail
        go_roundw
        case rel=>exact⟨i+1,acc,by omega,by go_num,OWN.out,by omega,HQ3.out,O3.out⟩
        case measure=>first|(simp[intOf];done)|(simp[intOf];omega)
       | true =>
        go_wp2_with (at_builtin;refine aW ?_)
        refine aG (G:=fun w0=>Stop (wpList _ _ _ _ _ w0)) ?_;intro w5 hb5 ho5 hs5;have B5:=aA hb5;have O5:=aA (O3.out.aB ho5);have R5:=aA (OWN.out.kept ho5);clear hb5 ho5 hs5;refine bH ?_;refine bQ (B:=wq.heap.size) rfl _ _ 52 rfl 3 (.int .i64 0) 1 8 Tryz.underlying52 (by kernel_rfl) rfl (by decide) wN oQ IL acc _ rfl R5.out _ (i:Int) rfl (fun j u hj=>by rw[aC B5.out,<-hj];simp[wN]) (by simp[maxLen];omega) (by omega) O5.out.size ?_;intro v6 w6 hown6 hk6 ho6;have W6:=aA hown6;have O6:=aA (O5.out.trans ho6 fun x hx=>.inr (R5.out.DU x hx).1);clear hown6 hk6 ho6;go_wp2;go_roundw
        case rel=>exact⟨i+1,_,by omega,by go_num,W6.out,by rw[List.length_append,List.length_singleton];omega,fun q=>absurd (HB.out q) (by decide),O6.out⟩
        case measure=>first|(simp[intOf];done)|(simp[intOf];omega)
      ·obtain rfl:i=n:=by omega
       have hlt2:decide ((i:Int)<(i:Int))=false:=by simp
       have m:=bJ wr [];have k:=m.zK;go_wp2_with (first|((with_reducible first|refine cU ?_|refine wU ?_);clear k m;intro w m k)|((with_reducible refine lE (fun w o g k K hK=>⟨rfl,?_⟩));simp[results,Tryz.results26,go_sem];refine hK _ ?_;exact⟨_,_,rfl,(OWN.out.kept o).lower OZ.out.size,by omega,HQ3.out,(OZ.out.aB O3.out).aB o⟩))
    | true =>
     rw[if_pos rfl] at hg;clear HR;obtain⟨wq,rfl⟩:∃ wq:World,wq=wr:=⟨_,rfl⟩;go_wp2_with fail
     go_loopw [10,36] (fun vc vi wr2=>∃ (i:Nat) (bs:List Bool) (ch:Bool),i<=n/\vi=.int .i64 i/\vc=.bool ch/\bs.length=24/\aO boC 143 1 wr2 bw 24 bs/\Oy [bw] wq wr2/\DC bs<=DC bs0/\(ch=true->DC bs<DC bs0)/\(UnQ ss l->bs=List.replicate 24 false)) (fun vc vi _=>n-(intOf vi).toNat)
     case atStart=>exact⟨0,bs0,false,Nat.zero_le _,rfl,rfl,hb0,HR0.out,aR _ _,Nat.le_refl _,nofun,HQ2.out⟩
     case round =>
      obtain⟨i,bs,ch,hi,rfl,rfl,hb,hr,ho,hc1,hc2,hq⟩:=hrel;have HQ4:=aA hq;clear hq;have HR:=aA hr;have O3:=aA ho;have OV:=aA (OW.out.trans ho (fun q hq=>.inl hq));clear hr ho;by_cases hlt:i<n
      ·have hlt3:(i:Int)<(n:Int):=by omega
       have ei:wrap .i64 ((i:Int)+1)=((i+1:Nat):Int):=by rw[wrap_i64];omega
       have hil:i<bs.length:=by omega
       have his:i<ss.length:=by rw[HN.out];exact hlt
       have hi24:(i:Int)<24:=by omega
       have HS2:=HS.out.kept OV.out (fun q hq=>by rw[List.mem_singleton.1 hq,<-HBW.out];exact Nat.le_refl _);obtain⟨pu,cu,hgc,hvu,hlu⟩:=HS2.get i _ (getElem?_eq_getElem his);have lb:=HS2.lt;have hli:=getElem?_eq_getElem his;generalize ss[i]=li at hgc hvu hlu hli;obtain⟨bi,hbi⟩:∃ bi,bs[i]=bi:=⟨_,rfl⟩
       have HX:=aA (show ∀ w',Oy [] wr w'->b<w'.heap.size/\w'.cell? ⟨b,i,none⟩=some (.slice pu li.length cu)/\bw<w'.heap.size/\w'.cell? ⟨bw,i,none⟩=some (.bool bi)/\w'.frozen? ⟨bw,i,none⟩=false from fun w' o=>by
        have hr3:=HR.out.kept o (by simp);refine⟨Nat.lt_of_lt_of_le lb o.size,(o.cell lb (by simp)).trans hgc,hr3.lt,?_,hr3.frozen _⟩;have:=hr3.cell sM (i:=i) (j:=0) (x:=bs[i]) (getElem?_eq_getElem hil) (by decide);rw[hbi] at this;simpa [boC] using this)
       cases bi with
       | true =>
        clear hgc hvu HS2 hbi;have m:=bJ wr [];have k:=m.zK;have c:=HX.out wr (aR _ _);go_wp2_with (first|((with_reducible refine iY (id:=15) [0,1,2,3,4,5,6,7,8,9,10,11,12] [] ?_);simp only[bV];(repeat' (first|go_big_quiet_step (with_reducible first|exact gX (HD.out _ RH))|(refine wpQuiet_step (fun K hK=>?_);go_simp;(first|(refine hK _ ?_;clear hK K)|(split<;>(refine hK _ ?_;clear hK K))))));all_goals (refine wpQuiet_nil ?_;clear k m c;intro w m k;have c:=HX.out w m.zO))|((with_reducible first|refine cU ?_|refine wU ?_);clear k m c;intro w m k;have c:=HX.out w m.zO)|(go_roundw;(case rel=>exact⟨i+1,bs,ch,by omega,by go_num,rfl,hb,HR.out.kept m.zO (by simp),O3.out.trans (m.zO.weak (S':=[bw]) (by simp)) (fun q hq=>.inl hq),hc1,hc2,HQ4.out⟩);(case measure=>first|(simp[intOf];done)|(simp[intOf];omega))))
       | false =>
        have hlk:(bs.take n).length=n:=by rw[length_take];omega
        have HD:=aA (fun w' (o:Oy [] wr w')=>(show Calls Tryz.prog 49 #[.slice pu li.length cu,.slice (some ⟨bw,0,none⟩) n 24] w' fun e w''=>e=.returned (.bool (N9 li (bs.take n)))/\Oy [] w' w'' by
         have:=TW (hvu.kept o) (((HR.out.kept o (by simp)).take sM n).dI sM (n:=(bs.take n).length) rfl) hlu (by omega);rw[hlk] at this;exact this))
        have hcs:=LH (bs:=bs) (i:=i) (by rw[getElem?_eq_getElem hil,hbi])
        have HDQ:=aA (show UnQ ss l->N9 li (bs.take n)=false from fun q=>by
         have:=q.2 i li hli;rw[HQ4.out q,List.take_replicate,Nat.min_eq_left n1,<-HN.out];exact this)
        generalize N9 li (bs.take n)=d at HD HDQ;clear hgc hvu HS2 hbi hlk
        cases d with
        | false =>
         have m:=bJ wr [];have k:=m.zK;have c:=HX.out wr (aR _ _);go_wp2_with (first|((with_reducible refine iY (id:=15) [0,1,2,3,4,5,6,7,8,9,10,11,12] [] ?_);simp only[bV];(repeat' (first|go_big_quiet_step (with_reducible first|exact gX (HD.out _ RH))|(refine wpQuiet_step (fun K hK=>?_);go_simp;(first|(refine hK _ ?_;clear hK K)|(split<;>(refine hK _ ?_;clear hK K))))));all_goals (refine wpQuiet_nil ?_;clear k m c;intro w m k;have c:=HX.out w m.zO))|((with_reducible first|refine cU ?_|refine wU ?_);clear k m c;intro w m k;have c:=HX.out w m.zO)|(go_roundw;(case rel=>exact⟨i+1,bs,ch,by omega,by go_num,rfl,hb,HR.out.kept m.zO (by simp),O3.out.trans (m.zO.weak (S':=[bw]) (by simp)) (fun q hq=>.inl hq),hc1,hc2,HQ4.out⟩);(case measure=>first|(simp[intOf];done)|(simp[intOf];omega))))
        | true =>
         have HR2:=aA (fun w' (o:Oy [] wr w')=>aO.set1 (f:=Value.bool) (HR.out.kept o (by simp)) (i:=i) hil true);have m:=bJ wr [];have k:=m.zK;have c:=HX.out wr (aR _ _);go_wp2_with (first|((with_reducible refine iY (id:=15) [0,1,2,3,4,5,6,7,8,9,10,11,12] [] ?_);simp only[bV];(repeat' (first|go_big_quiet_step (with_reducible first|exact gX (HD.out _ RH))|(refine wpQuiet_step (fun K hK=>?_);go_simp;(first|(refine hK _ ?_;clear hK K)|(split<;>(refine hK _ ?_;clear hK K))))));all_goals (refine wpQuiet_nil ?_;clear k m c;intro w m k;have c:=HX.out w m.zO))|((with_reducible first|refine cU ?_|refine wU ?_);clear k m c;intro w m k;have c:=HX.out w m.zO))
         go_roundw
         case rel=>exact⟨i+1,bs.set i true,true,by omega,by go_num,rfl,by rw[List.length_set];exact hb,HR2.out _ m.zO,(O3.out.trans (m.zO.weak (S':=[bw]) (by simp)) (fun q hq=>.inl hq)).setCell (.inl (by simp)) _,by omega,fun _=>by omega,fun q=>absurd (HDQ.out q) (by decide)⟩
         case measure=>first|(simp[intOf];done)|(simp[intOf];omega)
      ·obtain rfl:i=n:=by omega
       have hlt2:decide ((i:Int)<(i:Int))=false:=by simp
       go_wp2_with fail
       go_roundg (2*DC bs+(if ch=true then 1 else 0))
       case measure=>cases ch<;>simp at hc2 |-<;>omega
       case rel=>exact⟨bs,ch,rfl,hb,HR.out,O2.out.trans O3.out (fun q hq=>.inl hq),HQ4.out,Nat.le_refl _⟩
end
end Go.Proofs.YtppjhbjmfkiejaaGreat
