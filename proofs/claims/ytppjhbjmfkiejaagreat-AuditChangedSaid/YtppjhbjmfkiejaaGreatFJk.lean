/- Texts of one chain: E9, Ea, Eb, Ed. Conditions: those named in each theorem. -/
import Derived.Test.YtppjhbjmfkiejaaGreatFJi
import Derived.Test.YtppjhbjmfkiejaaGreatFJg
namespace Go.Proofs.YtppjhbjmfkiejaaGreat
open List (flatMap_cons getElem_mem mem_append mem_cons mem_flatMap mem_singleton nodup_append nodup_cons)
open IntKind (wrap_i64)
open IntKind (wrap)
set_option maxRecDepth 100000
set_option maxHeartbeats 4000000
section
open Go.RowKit Go.Sort
def cndD (s:Sr) (g:iU):Int:=min 9007199254740992 (yC g+(iO s.hdr.rdel+1) / 2+iO s.hdr.rdsp)
def LJ (s:Sr) (i now:Int):Option Cd:=
 if BK s.rc=true/\s.hr=true/\s.rt.str<16 then (if (DR s.fl now).2=0 then some ⟨i,(DR s.fl now).1.off,cndD s (DR s.fl now).1,jtS s.fl.l,s.rt.str⟩ else none) else none
def cndV:Option Cd->Value
 | some c=>.tuple #[yJ c,.bool true]
 | none=>.tuple #[yJ ⟨0,0,0,0,0⟩,.bool false]
theorem XA (g:iU):0<=yC g/\yC g<=13510798882111489:=by
 unfold yC;split
 ·rename_i h
  obtain⟨_,h1,h2,_⟩:=rW.1 h;omega
 ·omega
theorem pCand {w:World} {b a f:Nat} {s:Sr} (hs:tJ w (b,a,f) s) (hn:b≠f) (hok:∀ x∈s.fl.l,gJ x=0) (h1:0<=s.hdr.rdel/\s.hdr.rdel<=4294967295) (h2:0<=s.hdr.rdsp/\s.hdr.rdsp<=4294967295) (i now:Int) :
  Calls Tryz.prog 249 #[.pointer (some ⟨b,0,none⟩),.int .i64 i,.int .i64 now] w fun e w'=>e=.returned (cndV (LJ s i now))/\jW w' f s.fl/\Oy [f] w w':=by
 obtain⟨hb0,_,hf⟩:=hs;have HB:=aA (fun w' (h:jW w' f s.fl)=>pBest h now);have HJ:=aA (fun w' (h:jW w' f s.fl)=>Y6 h hok);have HR:=aA (pReach s.rc);have HL1:=aA (QM s.hdr.rdel h1.1 h1.2);have HL2:=aA (QM s.hdr.rdsp h2.1 h2.2);have HD:=aA (pSDist (DR s.fl now).1);obtain⟨res,HE⟩:∃ r,Hid (LJ s i now=r):=⟨_,aA rfl⟩;rw[HE.out];unfold LJ cndD at HE;have oa:bits .and .i64 (UO s.hr s.hp) 1=if s.hr=true then 1 else 0:=by cases s.hr<;>cases s.hp<;>decide
 have b1:=XA (DR s.fl now).1;have b2:=IJ h1.1 h1.2;have b3:=IJ h2.1 h2.2;have HF:=aA hf;have HFL:=aA hf.lt;unfold yK at hb0;dsimp only at hb0;generalize s.fl=fl at HB HJ HD HE HF b1;obtain⟨sa,fl0,hr,hp,⟨r1,r2,r3,r4,r5⟩,sent,⟨e1,e2,e3,e4,e5,e6,e7,e8,e9,ea,eb,ec,ed⟩,⟨t1,t2,t3,t4⟩,⟨v1,v2⟩,pat⟩:=s;unfold JY at HR;dsimp only at HR HL1 HL2 HE oa b2 b3 hb0;generalize BK ⟨r1,r2,r3,r4,r5⟩=rr at HR HE;generalize UO hr hp=kn at hb0 oa;generalize iO e7=l7 at HL1 HE b2;generalize iO e8=l8 at HL2 HE b3;generalize yC (DR fl now).1=sd at HD HE b1;generalize jtS fl.l=jt at HJ HE;generalize DR fl now=bs at HB HD HE;obtain⟨⟨g1,g2,g3,g4⟩,ge⟩:=bs;have q1:wrap .i64 (l7+1)=l7+1:=by rw[wrap_i64];omega
 have q2:wrap .i64 (sd+(l7+1) / 2)=sd+(l7+1) / 2:=by rw[wrap_i64];omega
 have q3:wrap .i64 (sd+(l7+1) / 2+l8)=sd+(l7+1) / 2+l8:=by rw[wrap_i64];omega
 have q4:(l7+1).tdiv 2=(l7+1) / 2:=Int.tdiv_eq_ediv_of_nonneg (by omega);have q5:wrap .i64 ((l7+1) / 2)=(l7+1) / 2:=by rw[wrap_i64];omega
 unfold wV at HB HD;dsimp only at HB HD HE;clear h1 h2 hok b1 b2 b3;obtain⟨wo,rfl⟩:∃ wo:World,wo=w:=⟨_,rfl⟩;have m:Mm wo [] wo _:=⟨(Mem.start wo []).ext false hb0 (by simp) (by simp)⟩;have k:=m.zK;clear hb0;go_enter Tryz.func249,Tryz.ntmps249
 go_wp2_with (first|((with_reducible first|refine cU ?_|refine cM (HR.out _) ?_|refine wU ?_);clear k m;intro w m k)|((with_reducible refine lE (fun w o g k K hK=>⟨rfl,?_⟩));simp[results,Tryz.results249,go_sem,k];refine hK _ ?_;clear hK K k;rw[<-HE.out];(refine⟨?_,HF.out.kept o (by simp),o.weak (by simp)⟩;go_tidy;grind [cndV,yJ])))
 refine (HB.out _ (HF.out.kept m.zO (by simp))).mono ?_;rintro e w2 ⟨⟨fr,rfl⟩,hf2,ho2⟩;have HF2:=aA hf2;have hnf:f≠wo.heap.size:=by have:=HFL.out;omega
 have M2:=aA ((m.weak (S':=[f]) (by simp)).oth ho2 (fun x hx=>.inl hx) (by simp[hn,hnf.symm]));have hno:f ∉ [wo.heap.size]:=by simp[hnf]
 clear k m ho2 hf2;obtain⟨wq,rfl⟩:∃ wq:World,wq=w2:=⟨_,rfl⟩;have m:=M2.out.re;simp only[IB,if_true,Bool.false_eq_true,if_false] at m;have k:=m.zK;go_wp2_with (first|((with_reducible first|refine cU ?_|refine cM (HL1.out _) ?_|refine cM (HL2.out _) ?_|refine cM (HD.out _) ?_|refine wU ?_);clear k m;intro w m k)|((with_reducible refine iY (id:=6) [0,1,2,3,4,5,6,7,8,9,10,11,12,13] [] ?_);simp only[bV];(repeat' (first|go_big_quiet_step (with_reducible first|exact gX (HL1.out _)|exact gX (HL2.out _)|exact gX (HD.out _)|exact gX (HJ.out _ (HF2.out.kept RH hno)))|(refine wpQuiet_step (fun K hK=>?_);go_simp;(first|(refine hK _ ?_;clear hK K)|(split<;>(refine hK _ ?_;clear hK K))))));all_goals (refine wpQuiet_nil ?_;clear k m;intro w m k))|((with_reducible refine iY (id:=7) [0,1,2,3,4,5,6,7,8,9,10,11,12,13,14,15,16,17,18,19,20,21,22] [23,24] ?_);simp only[bV];(repeat' (first|go_big_quiet_step (with_reducible first|exact gX (HL1.out _)|exact gX (HL2.out _)|exact gX (HD.out _)|exact gX (HJ.out _ (HF2.out.kept RH hno)))|(refine wpQuiet_step (fun K hK=>?_);go_simp;(first|(refine hK _ ?_;clear hK K)|(split<;>(refine hK _ ?_;clear hK K))))));all_goals (refine wpQuiet_nil ?_;clear k m;intro w m k))|((with_reducible refine lE (fun w o g k K hK=>⟨rfl,?_⟩));simp[results,Tryz.results249,go_sem,k];refine hK _ ?_;clear hK K k;rw[<-HE.out];(refine⟨?_,HF2.out.kept o hno,M2.out.out.only.trans o (fun x hx=>.inr (by rw[mem_singleton.1 hx];exact Nat.le_refl _))⟩;go_tidy;grind [cndV,yJ])))
end
section
open Go.RowKit Go.Sort
structure JH (s:Sr):Prop where
 fl:∀ x∈s.fl.l,gJ x=0
 r1:0<=s.hdr.rdel/\s.hdr.rdel<=4294967295
 r2:0<=s.hdr.rdsp/\s.hdr.rdsp<=4294967295
def zD (srcs:List Sr) (now:Int):Nat->List Cd
 | 0=>[]
 | k+1=>zD srcs now k ++ (match srcs[k]? with
  | some s=>(LJ s k now).toList
  | none=>[])
def kH (c:Cl) (raw:Int):List Cd:=if (aZ c raw).2=0 then zD c.srcs (aZ c raw).1 c.srcs.length else []
theorem DF (srcs:List Sr) (now:Int):∀ k,(zD srcs now k).length<=k
 | 0=>Nat.le_refl _
 | k+1=>by
  have:=DF srcs now k;unfold zD;rw[List.length_append];split
  ·rename_i s _
   cases h:LJ s k now<;>simp<;>omega
  ·simp;omega
theorem RS {srcs:List Sr} {now:Int}:∀ k,∀ c∈zD srcs now k,0<=c.id/\c.id<k
 | 0,c,h=>by simp[zD] at h
 | k + 1,c,h=>by
  unfold zD at h;rcases mem_append.1 h with h|h
  ·have:=RS k c h;omega
  ·split at h
   ·rename_i s _
    unfold LJ at h;split at h
    ·split at h
     ·simp at h;subst h;simp;omega
     ·simp at h
    ·simp at h
   ·simp at h
def Pl.fs (P:Pl):List Nat:=P.ps.map (·.2.2)
theorem pl_bf {w:World} {P:Pl} {c:Cl} (h:bP w P c) {i:Nat} (hi:i<P.ps.length):P.ps[i].1≠P.ps[i].2.2/\P.bc≠P.ps[i].2.2:=by
 have hnd:=h.nd;unfold Pl.all at hnd;simp only[nodup_cons,mem_cons,not_or] at hnd;obtain⟨⟨_,_,_,n4⟩,_,_,_,n11⟩:=hnd;have hm:=getElem_mem hi;refine⟨?_,fun e=>n4 (mem_flatMap.2 ⟨_,hm,by rw[e];simp⟩)⟩
 have hq:∀ {l:List (Nat × Nat × Nat)},(l.flatMap fun p=>[p.1,p.2.1,p.2.2]).Nodup->∀ p∈l,p.1≠p.2.2:=by
  intro l;induction l with
  | nil=>simp
  | cons a l ih =>
   intro hn p hp;rw[flatMap_cons,nodup_append] at hn;rcases mem_cons.1 hp with rfl|hp
   ·have:=hn.1;simp only[nodup_cons,mem_cons,not_or] at this;exact this.1.2.1
   ·exact ih hn.2.1 p hp
 exact hq n11 _ hm
theorem bP.fill {w w':World} {P:Pl} {c:Cl} (h:bP w P c) (i:Nat) (hi:i<P.ps.length) (ho:Oy [P.ps[i].2.2] w w') (hf:jW w' P.ps[i].2.2 (c.srcs[i]'(h.len ▸ hi)).fl):bP w' P c:=by
 obtain⟨q1,q2⟩:=pl_bf h hi;have hic:i<c.srcs.length:=h.len ▸ hi;have hs:=h.src i hi hic;have hnd:=h.nd
 have ha:P.ps[i].2.1≠P.ps[i].2.2:=by
  unfold Pl.all at hnd;simp only[nodup_cons] at hnd
  have hq:∀ {l:List (Nat × Nat × Nat)},(l.flatMap fun p=>[p.1,p.2.1,p.2.2]).Nodup->∀ p∈l,p.2.1≠p.2.2:=by
   intro l;induction l with
   | nil=>simp
   | cons a l ih =>
    intro hn p hp;rw[flatMap_cons,nodup_append] at hn;rcases mem_cons.1 hp with rfl|hp
    ·have:=hn.1;simp only[nodup_cons,mem_cons,not_or] at this;exact this.2.1.1
    ·exact ih hn.2.1 p hp
  exact hq hnd.2.2.2.2 _ (getElem_mem hi)
 have:=h.putS (s':=c.srcs[i]) i hi ho (by simp) ⟨ho.got hs.b (by simpa using q1),hs.a.kept ho (by simpa using ha),hf⟩;rwa [List.set_getElem_self] at this
theorem Own.lower {α:Type} {enc:α->List Value} {t:TypeId} {n B B':Nat} {w:World} {v:Value} {l:List α} (h:Own enc t n B w v l) (hb:B'<=B):Own enc t n B' w v l:=by
 rcases h with h|⟨g,cap,h1,h2,h3⟩
 ·exact .inl h
 ·exact .inr ⟨g,cap,h1,Nat.le_trans hb h2,h3⟩
theorem bP.off {w w':World} {P:Pl} {c:Cl} {T:List Nat} (h:bP w P c) (ho:Oy T w w') (hT:∀ b∈P.all,b ∉ T):bP w' P c:=by
 have hp:∀ i (hi:i<P.ps.length),P.ps[i].1 ∉ T/\P.ps[i].2.1 ∉ T/\P.ps[i].2.2 ∉ T:=fun i hi=>by
  have hm:∀ x∈[P.ps[i].1,P.ps[i].2.1,P.ps[i].2.2],x ∉ T:=fun x hx=>hT x (by unfold Pl.all;simp only[mem_cons];exact .inr (.inr (.inr (.inr (mem_flatMap.2 ⟨_,getElem_mem hi,hx⟩)))));exact⟨hm _ (by simp),hm _ (by simp),hm _ (by simp)⟩
 exact⟨ho.got h.cl (hT _ (by simp[Pl.all])),ho.got h.ck (hT _ (by simp[Pl.all])),ho.got h.sv (hT _ (by simp[Pl.all])),h.row.kept ho (hT _ (by simp[Pl.all])),h.len,fun i h1 h2=>(h.src i h1 h2).kept ho (hp i h1).1 (hp i h1).2.1 (hp i h1).2.2,h.nd,fun b hb=>Nat.lt_of_lt_of_le (h.lt b hb) ho.size⟩
theorem Mm.abs2 {w0 w:World} {S:List Nat} {L:List gG} {G:World->Prop} {v1 v2:List Value} {t1 t2:TypeId} (m:Mm w0 S w L) (k:∀ w',Mm w0 S w' (⟨w.heap.size+1,v2,t2,true⟩::⟨w.heap.size,v1,t1,true⟩::L)->Oy [] w w'->G w'):G ((w.alloc (.cells v1.toArray t1)).alloc (.cells v2.toArray t2)):=
 k _ inferInstance (((aR [] w).alloc _).alloc _)
def CdI (w:World) (P:Pl) (c:Cl) (now:Int) (vo vi:Value) (wr:World):Prop:=
 ∃ k:Nat,k<=P.ps.length/\vi=.int .i64 k/\Own iZ 382 5 w.heap.size wr vo (zD c.srcs now k)/\bP wr P c/\Oy P.fs w wr
theorem kX {α:Type} {S:List Nat} {P:Program} {w0 w:World} {ops:Array Oper} {rest:List Oper} {o:Oper} {a:Act} {Q:Exit->Act->World->Prop} (hgd:o.guard=none) (sO xO:Operand) (t:TypeId)
  (ho:o.op=.call { callee:=.builtin .append,args:=#[sO,xO],argTypes:=#[t,t] })
  (e:TypeId) (z:Value) (size bytes:Nat) (ht:P.underlying t=some (.slice e)) (hi:(P.info? e).map (fun i=>(i.zero,i.size,i.bytes))=some (some z,size,bytes)) (hzs:z.cells.size=size) (hsz:0<size)
  (enc:α->List Value) (hs:∀ x,(enc x).length=size) (h1c:∀ x,∀ u∈enc x,u.oneCell'=true) (l:List α) (v:Value) (hv:a.eval sO=v) (hown:Own enc e size w0.heap.size w v l)
  (ad:Nat) (x:α) (hx:a.eval xO=.slice (some ⟨ad,0,none⟩) 1 1) (hnews:∀ j u,(enc x)[j]? = some u->w.cell? ⟨ad,j,none⟩=some u)
  (hlen:l.length+1<=maxLen) (hby:(l.length+1)*bytes<=140737488355328) (hb:Oy S w0 w)
  (hK:∀ v' w',Own enc e size w0.heap.size w' v' (l ++ [x])->Oy S w0 w'->Oy v.ownBlock.toList w w'->wpList P ops Q rest (a.put o.dst v') w'):wpList P ops Q (o::rest) a w:=by
 cases hi':P.info? e with
 | none=>rw[hi'] at hi;simp at hi
 | some i =>
  rw[hi'] at hi;simp only[Option.map_some,Option.some.injEq,Prod.mk.injEq] at hi;obtain⟨z1,z2,z3⟩:=hi;have hadd:∀ j,(⟨ad,0,none⟩:Addr).add j=⟨ad,j,none⟩:=fun j=>by rw[addr_add];simp
  have hfl:(l ++ [x]).flatMap enc=l.flatMap enc ++ enc x:=by simp
  have hblk:w.ownsRow 0 e size v l.length (l.flatMap enc):=by
   rcases hown with ⟨rfl,rfl⟩|⟨g,cap,rfl,_,h3⟩
   ·exact⟨by simp,.inl ⟨rfl,rfl⟩⟩
   ·exact h3.owns hs (Nat.zero_le _)
  have hge:∀ k,v.ownBlock=some k->w0.heap.size<=k:=by
   intro k hk;rcases hown with ⟨rfl,rfl⟩|⟨g,cap,rfl,h2,_⟩
   ·simp[Value.ownBlock] at hk
   ·simp only[Value.ownBlock,Option.some.injEq] at hk;omega
  refine dB hgd sO xO t ho e i z size bytes ht hi' z1 z2 z3 hzs hsz v l.length (l.flatMap enc) hv hblk ⟨ad,0,none⟩ 1 1 (enc x) hx (by rw[hs];omega) (fun j u hj=>by rw[hadd];exact hnews j u hj) (h1c x) hlen hby (by decide) ?_;intro g' cap' w' hown' ho' hg';rw[<-hfl] at hown';refine hK _ _ (.inr ⟨g',cap',by simp,?_,aO.kN hown' (by simp)⟩) (hb.trans ho' (fun y hy=>.inr (hge y (by simpa using hy)))) ho';rcases hg' with h|rfl
  ·exact hge _ h
  ·exact hb.size
theorem pCands {w:World} {P:Pl} {c:Cl} (h:bP w P c) (hok:jE c.ck) (hn:P.ps.length<=12) (hg:∀ s∈c.srcs,JH s) (raw:Int) (h0: -9223372036854775808<=raw) (h1:raw<=9223372036854775807) :
  Calls Tryz.prog 237 #[.pointer (some ⟨P.bc,0,none⟩),.int .i64 raw] w fun e w'=>(∃ v,e=.returned v/\Own iZ 382 5 w.heap.size w' v (kH c raw))/\bP w' P c/\Oy P.fs w w':=by
 have HN:=aA (CB h hok raw h0 h1);have HC:=aA h;have HG:=aA hg;have HLE:=aA h.len;obtain⟨res,HE⟩:∃ r,Hid (kH c raw=r):=⟨_,aA rfl⟩;rw[HE.out];unfold kH at HE;generalize aZ c raw=cn at HN HE;obtain⟨now,er⟩:=cn;dsimp only at HN HE;clear h hok hg h0 h1;by_cases he:er=0
 rotate_left
 ·have q1:(er != 0)=true:=by simpa using he
  rw[if_neg he] at HE;obtain rfl:=HE.out;go_enter Tryz.func237,Tryz.ntmps237
  go_wp2_with fail
  refine HN.out.mono ?_;rintro e w2 ⟨rfl,ho2⟩;go_wp2;go_ret
  exact⟨⟨_,rfl,bR _ _⟩,HC.out.kept ho2,ho2.weak (by simp)⟩
 ·subst he
  rw[if_pos rfl] at HE;obtain⟨wo,rfl⟩:∃ wo:World,wo=w:=⟨_,rfl⟩;go_enter Tryz.func237,Tryz.ntmps237
  go_wp2_with fail
  refine HN.out.mono ?_;rintro e w2 ⟨rfl,ho2⟩;have O2:=aA ho2;have HC2:=aA (HC.out.kept ho2);have kc:=nZ HC2.out.cl;have HLC:=aA HC2.out.lt;clear ho2 HN HC;go_wp2_with fail
  go_loopw [7,25] (fun vo vi wr=>CdI w2 P c now vo vi wr) (fun _ vi _=>P.ps.length-(intOf vi).toNat)
  case atStart=>exact⟨0,Nat.zero_le _,rfl,bR _ _,HC2.out,aR _ _⟩
  case round =>
   obtain⟨k,hk,rfl,hown,hcl,ho⟩:=hrel;have OW:=aA hown;have OO:=aA ho;have HC:=aA hcl;clear kc;have kc:=nZ hcl.cl;by_cases hlt:k<P.ps.length
   ·have hic:k<c.srcs.length:=HLE.out ▸ hlt
    have hs:=hcl.src k hlt hic;have hbf:=pl_bf hcl hlt;have hgs:=HG.out _ (getElem_mem hic);have HFI:=aA (fun w'=>hcl.fill (w':=w') k hlt);have HFS:=aA (show P.ps[k].2.2∈P.fs from List.mem_map.2 ⟨_,getElem_mem hlt,rfl⟩);have HS2:=aA (show zD c.srcs now (k+1)=zD c.srcs now k ++ (LJ c.srcs[k] k now).toList by rw[zD,List.getElem?_eq_getElem hic]);have hfl:=DF c.srcs now k
    have cg:wr.cell? ⟨P.g,k,none⟩=some (.pointer (some ⟨P.ps[k].1,0,none⟩)):=by
     have:=hcl.row.cell lH (i:=k) (j:=0) (x:=P.ps[k].1) (by rw[List.getElem?_map,List.getElem?_eq_getElem hlt];rfl) (by decide);simpa [wZ] using this
    have lg:=hcl.row.lt;have hflt:P.ps[k].2.2<w2.heap.size:=HC2.out.lt _ (by unfold Pl.all;simp only[mem_cons];exact .inr (.inr (.inr (.inr (mem_flatMap.2 ⟨_,getElem_mem hlt,by simp⟩)))));generalize P.ps[k]=pp at hs hbf HFI HFS cg hflt;obtain⟨pb,pa,pf⟩:=pp;dsimp only at hbf HFI HFS cg hflt;have HA:=aA (pCand hs hbf.1 hgs.fl hgs.r1 hgs.r2 (k:Int) now);have HFL:=aA hflt;generalize LJ c.srcs[k] k now=cd at HA HS2;generalize c.srcs[k]=s at HA HFI;generalize zD c.srcs now k=acc at OW HS2 hfl |-;clear hs hbf hgs hcl hown ho hflt hic;go_wp2_with fail
    refine HA.out.mono ?_;rintro e w3 ⟨rfl,hf3,ho3⟩;have O3:=aA (OO.out.trans ho3 (fun x hx=>.inl (by rw[mem_singleton.1 hx];exact HFS.out)));have HC3:=aA (HFI.out w3 ho3 hf3);have OW3:=aA (OW.out.lT ho3 (fun x hx=>by rw[mem_singleton.1 hx];exact HFL.out));clear ho3 hf3 kc cg lg HA HFI OO OW HC
    cases cd with
    | none =>
     unfold cndV yJ;have m:=bJ w3 [];have k:=m.zK;go_wp2_with (first|((with_reducible refine wU ?_);clear k m;intro w m k)|(go_roundw;(case rel=>exact⟨_,Nat.succ_le_of_lt hlt,by go_num,by rw[HS2.out];simpa using OW3.out.kept gO,HC3.out.kept gO,O3.out.aB gO⟩);(case measure=>first|(simp[intOf];done)|(simp[intOf];omega))))
    | some d =>
     obtain⟨d1,d2,d3,d4,d5⟩:=d;unfold cndV yJ;obtain⟨pp,cap',rfl,-⟩:=Own.dI (enc:=iZ) (s:=5) dQ OW3.out;have m:=bJ w3 [];have k:=m.zK;go_wp2_with (first|((with_reducible refine wU ?_);clear k m;intro w m k)|(at_builtin;refine aW ?_))
     refine Mm.abs2 (G:=fun w0=>Stop (wpList _ _ _ _ _ w0)) m (fun w5 m5 o5=>?_);have B5:=aA m5.out.got.1;have O5:=aA (O3.out.aB o5);have OW5:=aA (OW3.out.kept o5);have HC5:=aA (HC3.out.kept o5);have hcl:=HLC.out;clear k m m5 o5;refine bH ?_;refine kX (w0:=w2) rfl _ _ 377 rfl 382 cdZ 5 40 Tryz.underlying377 zY rfl (by decide) iZ dQ zZ acc (.slice pp acc.length cap') rfl OW5.out (w3.heap.size+1) ⟨d1,d2,d3,d4,d5⟩ rfl (fun j u hj=>?_) (by simp[maxLen];omega) (by omega) O5.out ?_
     ·rw[aC B5.out,<-hj];simp[iZ]
     intro v6 w6 hown6 ho6 hob;have W6:=aA hown6;have O6:=aA ho6;have HC6:=aA (HC5.out.off hob (fun b hb=>?_));rotate_left
     ·rcases OW5.out with h|⟨g,cp,h,hg,_⟩
      ·rw[h.1];simp[Value.ownBlock]
      ·intro hm
       have hb2:=hcl b hb;rw[h] at hm;simp[Value.ownBlock] at hm;omega
     clear hown6 ho6 hob;go_wp2;go_roundw
     case rel=>exact⟨_,Nat.succ_le_of_lt hlt,by go_num,by rw[HS2.out];exact W6.out,HC6.out,O6.out⟩
     case measure=>first|(simp[intOf];done)|(simp[intOf];omega)
   ·obtain rfl:k=P.ps.length:=by omega
    rw[HLE.out] at OW;go_wp2;go_ret
    exact⟨⟨_,rfl,by rw[<-HE.out];exact OW.out.lower O2.out.size⟩,HC.out,O2.out.fB OO.out⟩
end
section
open Go.RowKit Go.Sort
def adS (off jit:Int) (s:Sr):Sr:={ s with rc:=BM s.rc off jit }
def EK (off jit:Int):List Cd->List Sr->List Sr
 | [],l=>l
 | k::r,l=>EK off jit r (l.modify k.id.toNat (adS off jit))
theorem L6 (off jit:Int):∀ (ks:List Cd) (k:Cd) (l:List Sr),EK off jit (ks ++ [k]) l=(EK off jit ks l).modify k.id.toNat (adS off jit)
 | [],_,_=>rfl
 | _::r,k,_=>L6 off jit r k _
theorem SG (off jit:Int):∀ (ks:List Cd) (l:List Sr),(EK off jit ks l).length=l.length
 | [],_=>rfl
 | k::r,l=>by rw[EK,SG off jit r];simp
def uF (c:Cl) (now:Int):Int:=if c.st=true then max 1 (min (now-c.rd) 1125899906842624) else 1000000000
def ER (l:List Sr) (kept:List Cd):FX:=match l[((uM kept).headD default).id.toNat]? with
 | some s=>s.rt
 | none=>MH
def qC (c:Cl) (now off:Int) (kept:List Cd):Cl:=
 { c with st:=true,rd:=now,sv:=(fZ c.sv off (uF c now)).2.2,srcs:=EK off (xG kept) kept c.srcs,rt:=ER (EK off (xG kept) kept c.srcs) kept }
def MQ (c:Cl) (raw:Int) (a:Ac):Int × Ck:=if a.kind=2 then jF c.ck raw a.val else lY c.ck raw a.val
def gQ (c:Cl):List Sr:=c.srcs.map fun s=>{ s with fl:=⟨c.cf.tol,[]⟩ }
def jB (c:Cl) (raw now off:Int) (kept:List Cd):Ac × Int × Cl:=
 if (fZ c.sv off (uF c now)).2.1=0 then
  (if (MQ (qC c now off kept) raw (fZ c.sv off (uF c now)).1).1=0 then
   ((fZ c.sv off (uF c now)).1,0,if (fZ c.sv off (uF c now)).1.kind=2 then { qC c now off kept with ck:=(MQ (qC c now off kept) raw (fZ c.sv off (uF c now)).1).2,srcs:=gQ (qC c now off kept) } else { qC c now off kept with ck:=(MQ (qC c now off kept) raw (fZ c.sv off (uF c now)).1).2 })
  else (⟨0,0⟩,(MQ (qC c now off kept) raw (fZ c.sv off (uF c now)).1).1,{ qC c now off kept with ck:=(MQ (qC c now off kept) raw (fZ c.sv off (uF c now)).1).2 }))
 else (⟨0,0⟩,(fZ c.sv off (uF c now)).2.1,{ c with st:=true,rd:=now })
theorem yF {w:World} {P:Pl} {c:Cl} (h:bP w P c):P.bc≠P.bk/\P.bc≠P.bv/\P.bc≠P.g/\P.bk≠P.bv/\P.bk≠P.g/\P.bv≠P.g/\(∀ p∈P.ps,∀ x∈[p.1,p.2.1,p.2.2],P.bc≠x/\P.bk≠x/\P.bv≠x/\P.g≠x):=by
 have hnd:=h.nd;unfold Pl.all at hnd;simp only[nodup_cons,mem_cons,not_or] at hnd;obtain⟨⟨n1,n2,n3,n4⟩,⟨n5,n6,n7⟩,⟨n8,n9⟩,n10,_⟩:=hnd;refine⟨n1,n2,n3,n5,n6,n8,fun p hp x hx=>?_⟩;have hm:x∈P.ps.flatMap fun p=>[p.1,p.2.1,p.2.2]:=mem_flatMap.2 ⟨p,hp,hx⟩;exact⟨fun e=>n4 (e ▸ hm),fun e=>n7 (e ▸ hm),fun e=>n9 (e ▸ hm),fun e=>n10 (e ▸ hm)⟩
theorem bP.putV {w w':World} {P:Pl} {c:Cl} {s:Sv} (h:bP w P c) (ho:Oy [P.bv] w w') (hs:mH w' P.bv s):bP w' P { c with sv:=s }:=by
 obtain⟨n1,n2,n3,n4,n5,n6,n7⟩:=yF h;refine⟨ho.got h.cl (by simpa using n2),ho.got h.ck (by simpa using n4),hs,h.row.kept ho (by simpa using n6.symm),h.len,fun i h1 h2=>?_,h.nd,fun b hb=>Nat.lt_of_lt_of_le (h.lt b hb) ho.size⟩;have hp:=n7 _ (getElem_mem h1);exact (h.src i h1 h2).kept ho (by simpa using (hp _ (by simp)).2.2.1.symm) (by simpa using (hp P.ps[i].2.1 (by simp)).2.2.1.symm) (by simpa using (hp P.ps[i].2.2 (by simp)).2.2.1.symm)
theorem bP.putK {w w':World} {P:Pl} {c:Cl} {k:Ck} (h:bP w P c) (ho:Oy [P.bk] w w') (hs:kT w' P.bk k):bP w' P { c with ck:=k }:=by
 obtain⟨n1,n2,n3,n4,n5,n6,n7⟩:=yF h;refine⟨ho.got h.cl (by simpa using n1),hs,ho.got h.sv (by simpa using n4.symm),h.row.kept ho (by simpa using n5.symm),h.len,fun i h1 h2=>?_,h.nd,fun b hb=>Nat.lt_of_lt_of_le (h.lt b hb) ho.size⟩;have hp:=n7 _ (getElem_mem h1);exact (h.src i h1 h2).kept ho (by simpa using (hp _ (by simp)).2.1.symm) (by simpa using (hp P.ps[i].2.1 (by simp)).2.1.symm) (by simpa using (hp P.ps[i].2.2 (by simp)).2.1.symm)
theorem bP.putB2 {w w':World} {P:Pl} {c c':Cl} {T:List Nat} (h:bP w P c) (ho:Oy T w w') (hT:∀ b∈P.all,b∈T->b=P.bc) (hb:mW w' P c') (h1:c'.ck=c.ck) (h2:c'.sv=c.sv) (h3:c'.srcs=c.srcs):bP w' P c':=by
 obtain⟨n1,n2,n3,n4,n5,n6,n7⟩:=yF h;have q:∀ b∈P.all,b≠P.bc->b ∉ T:=fun b hb hn hm=>hn (hT b hb hm);have ha:P.bk∈P.all/\P.bv∈P.all/\P.g∈P.all:=by simp[Pl.all]
 refine⟨hb,by rw[h1];exact ho.got h.ck (q _ ha.1 n1.symm),by rw[h2];exact ho.got h.sv (q _ ha.2.1 n2.symm),h.row.kept ho (q _ ha.2.2 n3.symm),by rw[h3];exact h.len,fun i i1 i2=>?_,h.nd,fun b hb=>Nat.lt_of_lt_of_le (h.lt b hb) ho.size⟩;have hp:=n7 _ (getElem_mem i1);have hm:∀ x∈[P.ps[i].1,P.ps[i].2.1,P.ps[i].2.2],x ∉ T:=fun x hx=>q x (by unfold Pl.all;simp only[mem_cons];exact .inr (.inr (.inr (.inr (mem_flatMap.2 ⟨_,getElem_mem i1,hx⟩))))) (hp x hx).1.symm;have:=(h.src i i1 (h3 ▸ i2)).kept ho (hm _ (by simp)) (hm _ (by simp)) (hm _ (by simp));simp only[h3];exact this
end
section
open Go.RowKit Go.Sort
theorem NM {A B:List Nat} {p1 p2 p3 b:Nat} (h:(A ++ (p1::p2::p3::B)).Nodup) (hb:b ∉ A ++ (p1::p2::p3::B)):(A ++ (p1::p2::b::B)).Nodup:=by
 simp only[nodup_append,nodup_cons,mem_cons,mem_append,not_or] at h hb |-;grind
def BD (p:Nat × Nat × Nat):List Nat:=[p.1,p.2.1,p.2.2]
theorem lV:∀ {l:List (Nat × Nat × Nat)} {k:Nat} (hk:k<l.length),l.flatMap BD=(l.take k).flatMap BD ++ (l[k].1::l[k].2.1::l[k].2.2::(l.drop (k+1)).flatMap BD)
 | _::_,0,_=>rfl
 | a::l,k+1,hk=>by
  have:=lV (l:=l) (k:=k) (by simpa using hk);simp only[flatMap_cons,List.take_succ_cons,List.getElem_cons_succ,List.drop_succ_cons,this,List.append_assoc]
theorem FK {l:List (Nat × Nat × Nat)} {k b:Nat} (hk:k<l.length):(l.set k (l[k].1,l[k].2.1,b)).flatMap BD=(l.take k).flatMap BD ++ (l[k].1::l[k].2.1::b::(l.drop (k+1)).flatMap BD):=by
 rw[lV (l:=l.set k (l[k].1,l[k].2.1,b)) (k:=k) (by simpa using hk)];rw[List.take_set_of_le (by omega),List.drop_set_of_lt (by omega)];simp
theorem KQ {l:List (Nat × Nat × Nat)} {k b:Nat} (hk:k<l.length):(l.set k (l[k].1,l[k].2.1,b)).map (·.1)=l.map (·.1):=by
 rw[List.map_set];apply List.ext_getElem
 ·simp
 ·intro j h1 h2
  rw[List.getElem_set];split
  ·rename_i e;subst e;simp
  ·rfl
def Pl.newF (P:Pl) (k b:Nat) (hk:k<P.ps.length):Pl:={ P with ps:=P.ps.set k (P.ps[k].1,P.ps[k].2.1,b) }
theorem KO {P:Pl} {k b:Nat} (hk:k<P.ps.length):∀ x∈(P.newF k b hk).all,x∈P.all\/x=b:=by
 intro x hx;unfold Pl.all Pl.newF at hx;dsimp only at hx;rw[show (fun p:Nat × Nat × Nat=>[p.1,p.2.1,p.2.2])=BD from rfl,FK hk] at hx;unfold Pl.all;rw[show (fun p:Nat × Nat × Nat=>[p.1,p.2.1,p.2.2])=BD from rfl,lV hk];simp only[mem_cons,mem_append] at hx |-;grind
theorem bP.putF {w w':World} {P:Pl} {c:Cl} {b k:Nat} {s':Sr} (h:bP w P c) (hk:k<P.ps.length) (ho:Oy [P.ps[k].1] w w') (hn:w.heap.size<=b) (hb:yK w' P.ps[k].1 P.ps[k].2.1 b s') (h1:s'.sa=(c.srcs[k]'(h.len ▸ hk)).sa) (hf:jW w' b s'.fl):bP w' (P.newF k b hk) { c with srcs:=c.srcs.set k s' }:=by
 have hkc:k<c.srcs.length:=h.len ▸ hk;obtain⟨n1,n2,n3,n4,n5,n6,n7⟩:=yF h;have hpk:=n7 _ (getElem_mem hk) P.ps[k].1 (by simp);have hbl:b ∉ P.all:=fun hm=>by have:=h.lt b hm;omega
 have hnd:=h.nd;have hs:=h.src k hk hkc
 have hq:P.ps[k].2.1≠P.ps[k].1:=by
  unfold Pl.all at hnd;rw[show (fun p:Nat × Nat × Nat=>[p.1,p.2.1,p.2.2])=BD from rfl,lV hk] at hnd;simp only[nodup_cons,nodup_append,mem_cons,mem_append,not_or] at hnd;grind
 refine⟨by have:=ho.got h.cl (by simpa using hpk.1);unfold mW;simp only[Pl.newF,List.length_set];exact this,ho.got (b:=P.bk) h.ck (by simpa using hpk.2.1),ho.got (b:=P.bv) h.sv (by simpa using hpk.2.2.1),?_,by simpa [Pl.newF] using h.len,fun j i1 i2=>?_,?_,fun x hx=>?_⟩
 ·unfold Pl.newF
  dsimp only;rw[KQ hk];exact h.row.kept ho (by simpa using hpk.2.2.2)
 ·have i1':j<P.ps.length:=by simpa [Pl.newF] using i1
  have i2':j<c.srcs.length:=by simpa using i2
  by_cases e:k=j
  ·subst e
   simp only[Pl.newF,List.getElem_set_self];exact⟨hb,by rw[h1];exact hs.a.kept ho (by simpa using hq),hf⟩
  ·simp only[Pl.newF,List.getElem_set_ne e]
   unfold Pl.all at hnd;simp only[nodup_cons] at hnd;have ap:∀ x∈[P.ps[j].1,P.ps[j].2.1,P.ps[j].2.2],x ∉ [P.ps[k].1]:=fun x hx hm=>oZ (f:=fun p:Nat × Nat × Nat=>[p.1,p.2.1,p.2.2]) i1' hk hnd.2.2.2.2 (Ne.symm e) x hx (by rw[mem_singleton.1 hm];simp);exact (h.src j i1' i2').kept ho (ap _ (by simp)) (ap _ (by simp)) (ap _ (by simp))
 ·unfold Pl.all Pl.newF at *
  dsimp only at *;rw[show (fun p:Nat × Nat × Nat=>[p.1,p.2.1,p.2.2])=BD from rfl] at *;rw[lV hk] at hnd hbl;rw[FK hk];exact NM (A:=P.bc::P.bk::P.bv::P.g::(P.ps.take k).flatMap BD) (b:=b) hnd hbl
 ·rcases KO hk x hx with hx|rfl
  ·exact Nat.lt_of_lt_of_le (h.lt x hx) ho.size
  ·exact hf.lt
end
end Go.Proofs.YtppjhbjmfkiejaaGreat
