/- Texts of one chain: D4, D5, D6. Conditions: those named in each theorem. -/
import Derived.Test.YthbgcpfklmlnjaaGreatFJc
import Derived.Test.YthbgcpfklmlnjaaGreatFV6
namespace Go.Proofs.YthbgcpfklmlnjaaGreat
open List (map_cons map_nil mem_append mem_cons not_mem_nil)
open Go.Lib (hid)
set_option maxRecDepth 100000
set_option maxHeartbeats 4000000
section
open Go.RowKit
def MS:Iv:=⟨-4503599627370496,4503599627370496⟩
def sM (x:Iv):Iv:=(vD x MS).getD MS
def lJ (x:Iv) (fr to tol:Int):Iv:=if (K5 x (to-fr) tol).2=0 then sM (K5 x (to-fr) tol).1 else MS
theorem gF (n lo hi:Int) (w:World) :
  Calls Tryz.prog 49 #[.int .i64 n,.int .i64 lo,.int .i64 hi] w fun e w'=>e=.returned (.bool (!bT n lo hi))/\Only [] w w':=by
 by_cases h1:n<lo
 focus
  have a1:decide (n<lo)=true:=dF h1;rw[show bT n lo hi=false from by rw[nY];omega]
 rotate_left
 focus
  have a1:decide (n<lo)=false:=bR h1;by_cases h2:hi<n
  focus
   have a2:decide (hi<n)=true:=dF h2;rw[show bT n lo hi=false from by rw[nY];omega]
  rotate_left
  focus
   have a2:decide (hi<n)=false:=bR h2;rw[show bT n lo hi=true from by rw[aW];omega]
  rotate_left
 rotate_left 2
 all_goals
  go_enter Tryz.func49,Tryz.ntmps49
  have OO:=hid (Only.refl [] w);go_wp2;go_ret
  exact⟨rfl,OO.out⟩
theorem GA  (w:World) :
  Calls Tryz.prog 54 #[] w fun e w'=>e=.returned (dS MS)/\Only [] w w':=by
 go_enter Tryz.func54,Tryz.ntmps54
 go_upto_region 1 with (fail)
 refine aF (G:=fun w0=>Code.wp _ _ _ _ w0) ?_;intro w1 hb1 ho1 hs1;obtain⟨b1,hbe1⟩:∃ b,w.heap.size=b:=⟨_,rfl⟩;rw[hbe1] at hb1;rw[hbe1];have HN:Hid (w.heap.size<=b1):=hid (by omega);have B1:=hid hb1;have OO:=hid ho1;clear hb1 hs1 hbe1;clear ho1;have k1:=c_2 B1.out;go_wp2;have HD:=aG (o:=1) (.int .i64 4503599627370496) (aG (o:=0) (.int .i64 (-4503599627370496)) (B1.out));have e0:=aA HD 0;have e1:=aA HD 1;have le:=aD HD;refine bodyPost_ret (v:=.agg #[.int .i64 (-4503599627370496),.int .i64 4503599627370496]) (by simp[results,Tryz.results54,go_sem,e0,e1]) rfl ⟨rfl,((OO.out.setCell (.inr HN.out) _).setCell (.inr HN.out) _)⟩
theorem pClip (x:Iv) (w:World) :
  Calls Tryz.prog 173 #[dS x] w fun e w'=>e=.returned (dS (sM x))/\Only [] w w':=by
 have HEV:=hid (fun w'=>GA w');have HMT:=hid (fun w'=>pMeet x MS w');obtain⟨res,HE⟩:∃ zz,Hid (sM x=zz):=⟨_,hid rfl⟩;rw[HE.out];unfold sM at HE;generalize vD x MS=mo at HMT HE;obtain⟨x1,x2⟩:=x;simp only[dS,MS] at HEV HMT |-;rcases mo with _|⟨y1,y2⟩
 focus
  skip
 rotate_left 1
 focus
  skip
 all_goals
  simp only[P6] at HMT;first|(simp only[Option.getD_none,MS] at HE)|(simp only[Option.getD_some] at HE)
  obtain rfl:=HE.out;clear HE;have m:=dD w [];have k:=m.out.k;go_enter Tryz.func173,Tryz.ntmps173
  go_wp2_with (first|((with_reducible first|refine cM (HEV.out _) ?_|refine cU ?_|refine wU ?_);clear k m;intro w m k)|((with_reducible refine rA (id:=1) [0,1,2,3,4] [5] 6 [7,8] (by kernel_rfl) (by kernel_rfl) ?_);simp only[pick,map_cons,map_nil,List.getD_cons_succ,List.getD_cons_zero];(repeat (first|(refine aO (fun K hK=>?_);go_simp;refine hK _ ?_;clear hK K)|(refine cG (by kernel_rfl) ⟨_,_,_,?_,fun w' o=>HEV.out w',?_⟩;(focus (intro w;go_simp;done)))|(refine cG (by kernel_rfl) ⟨_,_,_,?_,fun w' o=>HMT.out w',?_⟩;(focus (intro w;go_simp;done)))));refine aR ?_;(repeat (refine aJ (fun K hK=>?_);go_simp;refine hK _ ?_;clear hK K));refine aN ?_;clear k m;intro w o m k;refine aC rfl ?_;go_wp2;simp only[bG];refine⟨o.alloc _,tW ?_⟩;clear o;clear k m;intro w m k;unfold aV;refine aC rfl ?_;go_wp2;simp only[bG];refine tW ?_;clear k m;intro w m k;unfold aV;refine aC rfl ?_;go_wp2;simp only[bG];refine tW ?_;clear k m;intro w m k;unfold aV)|((with_reducible refine lE (fun w o g k K hK=>⟨rfl,?_⟩));simp[results,Tryz.results173,go_sem,k];refine hK _ ?_;exact⟨rfl,o⟩))
theorem X0 {w:World} {bc:Nat} {tol:Int} (ht:w.cell? ⟨bc,1,none⟩=some (.int .i64 tol)) (hlt:bc<w.heap.size) (x:Iv) (fr to:Int) (h0: -9223372036854775808<=to-fr) (h1:to-fr<=9223372036854775807) :
  Calls Tryz.prog 160 #[.pointer (some ⟨bc,0,none⟩),dS x,.int .i64 fr,.int .i64 to] w fun e w'=>e=.returned (dS (lJ x fr to tol))/\Only [] w w':=by
 have HX:=hid (fun w' (o:Only [] w w')=>And.intro (Nat.lt_of_lt_of_le hlt o.size) ((o.cell hlt (by simp)).trans ht));have HA:=hid (fun w'=>pAge x (to-fr) tol w');have HEV:=hid (fun w'=>GA w');have HCL:=hid (fun w'=>pClip (K5 x (to-fr) tol).1 w');have r1:IntKind.i64.wrap (to-fr)=to-fr:=by rw[IntKind.wrap_i64];omega
 obtain⟨res,HE⟩:∃ zz,Hid (lJ x fr to tol=zz):=⟨_,hid rfl⟩;rw[HE.out];unfold lJ at HE;generalize K5 x (to-fr) tol=y at HA HCL HE;obtain⟨⟨yl,yh⟩,er⟩:=y;obtain⟨xl,xh⟩:=x;dsimp only at HA HCL HE;generalize sM ⟨yl,yh⟩=z at HCL HE;obtain⟨zl,zh⟩:=z;generalize MS=ev at HEV HE;obtain⟨el,eh⟩:=ev;simp only[dS] at HA HCL HEV |-;clear h0 h1;obtain⟨wo,hwo⟩:∃ wo:World,wo=w:=⟨_,rfl⟩;subst hwo;by_cases hne:er=0
 focus
  subst hne;rw[if_pos rfl] at HE
 rotate_left 1
 focus
  rw[if_neg hne] at HE;have q1:(er != 0)=true:=by simpa using hne
 all_goals
  obtain rfl:=HE.out;clear HE;have m:=dD wo [];have k:=m.out.k;have c:=HX.out wo (Only.refl _ _);go_enter Tryz.func160,Tryz.ntmps160
  go_wp2_with (first|((with_reducible first|refine cU ?_|refine cM (HEV.out _) ?_|refine cM (HCL.out _) ?_|refine wU ?_);clear k m c;intro w m k;have c:=HX.out w m.out.only)|((with_reducible refine rA (id:=1) [0,1,2,3,4,5,6,7,8,9,10,11] [12] 13 [14,15] (by kernel_rfl) (by kernel_rfl) ?_);simp only[pick,map_cons,map_nil,List.getD_cons_succ,List.getD_cons_zero];(repeat (first|(refine aO (fun K hK=>?_);go_simp;refine hK _ ?_;clear hK K)|(refine cG (by kernel_rfl) ⟨_,_,_,?_,fun w' o=>HA.out w',?_⟩;(focus (intro w;go_simp;done)))));refine aR ?_;(repeat (refine aJ (fun K hK=>?_);go_simp;refine hK _ ?_;clear hK K));refine aN ?_;clear k m;intro w o m k;refine aC rfl ?_;go_wp2;simp only[bG];refine⟨o.alloc _,tW ?_⟩;clear o;clear k m c;intro w m k;have c:=HX.out w m.out.only;unfold aV;refine aC rfl ?_;go_wp2;simp only[bG];refine tW ?_;clear k m c;intro w m k;have c:=HX.out w m.out.only;unfold aV;refine aC rfl ?_;go_wp2;simp only[bG];refine tW ?_;clear k m c;intro w m k;have c:=HX.out w m.out.only;unfold aV)|((with_reducible refine lE (fun w o g k K hK=>⟨rfl,?_⟩));simp[results,Tryz.results160,go_sem,k];refine hK _ ?_;exact⟨rfl,o⟩))
end
section
open Go.RowKit
structure Cf where
 servers:Int
 tol:Int
 prec:Int
 keep:Int
 sv:Sc
 rate:Int
 mn:Int
 mx:Int
deriving DecidableEq,Inhabited
def QO (c:Cf):Value:=.agg #[.int .i64 c.servers,.int .i64 c.tol,.int .i64 c.prec,.int .i64 c.keep,.int .i64 c.sv.kp,.int .i64 c.sv.ki,.int .i64 c.sv.lim,.int .i64 c.sv.sf,.int .i64 c.sv.sl,.int .i64 c.rate,.int .i64 c.mn,.int .i64 c.mx]
def fG (c:Cf):Int:=
 if bT c.servers 1 12 && (bT c.tol 0 500000 && (bT c.prec 1 1000000000 && bT c.keep 1 12)) then
  (if sG c.sv=0 then (if bT c.rate 1 500000 && (bT c.mn 3 17 && bT c.mx 3 17) then (if c.mx<c.mn then 12 else 0) else 3) else sG c.sv)
 else 3
structure Sr where
 sa:As
 fl:Fl
 hr:Bool
 hp:Bool
 rc:K9
 sent:Int
 hdr:Np
 rt:FB
 prf:Iv
 pat:Int
def SS (r p:Bool):Int:=(if r then 1 else 0)+(if p then 2 else 0)
structure Cl where
 cf:Cf
 ck:Ck
 sv:Sv
 srcs:List Sr
 last:Int
 own:Iv
 owned:Int
 rt:FB
 st:Bool
 rd:Int
structure Pl where
 bc:Nat
 bk:Nat
 bv:Nat
 g:Nat
 cap:Nat
 ps:List (Nat × Nat × Nat)
def wB (b:Nat):List Value:=[.pointer (some ⟨b,0,none⟩)]
def xM (w:World) (b a f:Nat) (s:Sr):Prop:=w.heap[b]? = some (.cells #[.pointer (some ⟨a,0,none⟩),.pointer (some ⟨f,0,none⟩),.int .i64 (SS s.hr s.hp),.int .i64 s.rc.bits,.int .i64 s.rc.poll,.int .i64 s.rc.mn,.int .i64 s.rc.mx,.int .i64 s.rc.cnt,.int .i64 s.sent,.int .i64 s.hdr.leap,.int .i64 s.hdr.ver,.int .i64 s.hdr.mode,.int .i64 s.hdr.strat,.int .i64 s.hdr.poll,.int .i64 s.hdr.prec,.int .u32 s.hdr.rdel,.int .u32 s.hdr.rdsp,.int .u32 s.hdr.rid,.int .u64 s.hdr.ref,.int .u64 s.hdr.org,.int .u64 s.hdr.rcv,.int .u64 s.hdr.xmt,.int .i64 s.rt.str,.int .i64 s.rt.dly,.int .i64 s.rt.dsp,.int .u32 s.rt.ref,.int .i64 s.prf.lo,.int .i64 s.prf.hi,.int .i64 s.pat] 145 (0,0))
structure rZ (w:World) (p:Nat × Nat × Nat) (s:Sr):Prop where
 b:xM w p.1 p.2.1 p.2.2 s
 a:tV w p.2.1 s.sa
 f:jQ w p.2.2 s.fl
def Pl.all (P:Pl):List Nat:=P.bc::P.bk::P.bv::P.g::P.ps.flatMap fun p=>[p.1,p.2.1,p.2.2]
def mI (w:World) (P:Pl) (c:Cl):Prop:=w.heap[P.bc]? = some (.cells #[.int .i64 c.cf.servers,.int .i64 c.cf.tol,.int .i64 c.cf.prec,.int .i64 c.cf.keep,.int .i64 c.cf.sv.kp,.int .i64 c.cf.sv.ki,.int .i64 c.cf.sv.lim,.int .i64 c.cf.sv.sf,.int .i64 c.cf.sv.sl,.int .i64 c.cf.rate,.int .i64 c.cf.mn,.int .i64 c.cf.mx,.pointer (some ⟨P.bk,0,none⟩),.pointer (some ⟨P.bv,0,none⟩),.slice (some ⟨P.g,0,none⟩) P.ps.length P.cap,.int .i64 c.last,.int .i64 c.own.lo,.int .i64 c.own.hi,.int .i64 c.owned,.int .i64 c.rt.str,.int .i64 c.rt.dly,.int .i64 c.rt.dsp,.int .u32 c.rt.ref,.bool c.st,.int .i64 c.rd] 134 (0,0))
structure bP (w:World) (P:Pl) (c:Cl):Prop where
 cl:mI w P c
 ck:kK w P.bk c.ck
 sv:lW w P.bv c.sv
 row:aP wB 135 1 w P.g P.cap (P.ps.map (·.1))
 len:P.ps.length=c.srcs.length
 src:∀ i (h:i<P.ps.length) (h':i<c.srcs.length),rZ w P.ps[i] c.srcs[i]
 nd:P.all.Nodup
 lt:∀ b∈P.all,b<w.heap.size
theorem rZ.kept {w w':World} {p:Nat × Nat × Nat} {s:Sr} {S:List Nat} (h:rZ w p s) (ho:Only S w w') (h1:p.1 ∉ S) (h2:p.2.1 ∉ S) (h3:p.2.2 ∉ S):rZ w' p s:=
 ⟨ho.got h.b h1,h.a.kept ho h2,h.f.kept ho h3⟩
theorem bP.kept {w w':World} {P:Pl} {c:Cl} (h:bP w P c) (ho:Only [] w w'):bP w' P c:=
 ⟨ho.got h.cl (by simp),ho.got h.ck (by simp),ho.got h.sv (by simp),h.row.kept ho (by simp),h.len,fun i h1 h2=>(h.src i h1 h2).kept ho (by simp) (by simp) (by simp),h.nd,fun b hb=>Nat.lt_of_lt_of_le (h.lt b hb) ho.size⟩
theorem PU (c:Cf) (w:World) :
  Calls Tryz.prog 30 #[QO c] w fun e w'=>e=.returned (.int .i64 (fG c))/\Only [] w w':=by
 obtain⟨sr,tl,pr,kp,⟨sk,si,sm,sf,sl⟩,ra,mn,mx⟩:=c;obtain⟨res,HE⟩:∃ r,Hid (fG ⟨sr,tl,pr,kp,⟨sk,si,sm,sf,sl⟩,ra,mn,mx⟩=r):=⟨_,hid rfl⟩;rw[HE.out];unfold fG at HE;dsimp only at HE;have HS:=hid (fun w'=>WR ⟨sk,si,sm,sf,sl⟩ w');generalize sG ⟨sk,si,sm,sf,sl⟩=se at HS HE;unfold scV at HS;dsimp only at HS;have H1:=hid (fun w'=>gF sr 1 12 w');generalize bT sr 1 12=b1 at H1 HE;have H2:=hid (fun w'=>gF tl 0 500000 w');generalize bT tl 0 500000=b2 at H2 HE;have H3:=hid (fun w'=>gF pr 1 1000000000 w');generalize bT pr 1 1000000000=b3 at H3 HE;have H4:=hid (fun w'=>gF kp 1 12 w');generalize bT kp 1 12=b4 at H4 HE;have H5:=hid (fun w'=>gF ra 1 500000 w');generalize bT ra 1 500000=b5 at H5 HE;have H6:=hid (fun w'=>gF mn 3 17 w');generalize bT mn 3 17=b6 at H6 HE;have H7:=hid (fun w'=>gF mx 3 17 w');generalize bT mx 3 17=b7 at H7 HE;unfold QO;dsimp only;have m:=dD w [];have k:=m.out.k;go_enter Tryz.func30,Tryz.ntmps30
 go_wp2_with (first|((with_reducible first|refine cM (HS.out _) ?_|refine cM (H1.out _) ?_|refine cM (H2.out _) ?_|refine cM (H3.out _) ?_|refine cM (H4.out _) ?_|refine cM (H5.out _) ?_|refine cM (H6.out _) ?_|refine cM (H7.out _) ?_|refine wU ?_);clear k m;intro w m k)|((with_reducible refine lE (fun w o g k K hK=>⟨rfl,?_⟩));simp[results,Tryz.results30,go_sem];refine hK _ ?_;clear hK K k;rw[<-HE.out];(go_tidy;grind)))
def aY (c:Cl) (raw:Int):Int × Int:=if (eF c.ck raw).2=0 then (if raw<c.last then (0,12) else eF c.ck raw) else (0,(eF c.ck raw).2)
theorem BF {w:World} {P:Pl} {c:Cl} (h:bP w P c) (hok:iY c.ck) (raw:Int) (h0: -9223372036854775808<=raw) (h1:raw<=9223372036854775807) :
  Calls Tryz.prog 106 #[.pointer (some ⟨P.bc,0,none⟩),.int .i64 raw] w fun e w'=>e=.returned (.tuple #[.int .i64 (aY c raw).1,.int .i64 (aY c raw).2])/\Only [] w w':=by
 have HN:=hid (fun w' (ho:Only [] w w')=>XZ (ho.got h.ck (by simp)) hok raw h0 h1);have hl:=h.cl;unfold mI at hl;have HE:Hid (aY c raw=if (eF c.ck raw).2=0 then (if raw<c.last then (0,12) else eF c.ck raw) else (0,(eF c.ck raw).2)):=hid rfl;generalize aY c raw=res at HE |-;have HXN:Hid (∃ x,x=eF c.ck raw):=hid ⟨_,rfl⟩;generalize eF c.ck raw=nn at HE HN;obtain⟨nv,ne⟩:=nn;dsimp only at HE HN;by_cases hz:ne=0
 focus
  subst hz;by_cases hlt:raw<c.last
  focus
   have d1:decide (raw<c.last)=true:=dF hlt;obtain rfl:res=(0,12):=by have:=HE.out;simpa [hlt] using this
  rotate_left
  focus
   have d1:decide (raw<c.last)=false:=bR hlt;obtain rfl:res=(nv,0):=by have:=HE.out;simpa [hlt] using this
  rotate_left
  all_goals clear HE
 rotate_left 2
 focus
  have q1:(ne != 0)=true:=by simpa using hz
  obtain rfl:res=(0,ne):=by have:=HE.out;simpa [hz] using this
  clear HE hz
 rotate_left
 all_goals
  go_enter Tryz.func106,Tryz.ntmps106
  have OO:=hid (Only.refl [] w);have B1:=hid hl;have k1:=nU B1.out;go_wp2_with fail
  refine (HN.out _ (Only.refl [] w)).mono ?_;rintro e w2 ⟨rfl,ho⟩;clear k1;replace OO:=hid (OO.out.aB ho);replace B1:=hid (ho.got B1.out (by simp));clear ho;have k1:=nU B1.out;go_wp2;go_ret2;exact⟨rfl,OO.out⟩
end
section
open Go.RowKit
section
variable {α:Type} {enc:α->List Value} {e:TypeId} {s:Nat}
theorem xQ {P:Program} {w:World} {B:Nat} {ops:Array Oper} {rest:List Oper} {o:Oper} {a:Act} {Q:Exit->Act->World->Prop} (hgd:o.guard=none) (sO xO:Operand) (t:TypeId)
  (ho:o.op=.call { callee:=.builtin .append,args:=#[sO,xO],argTypes:=#[t,t] })
  (e:TypeId) (z:Value) (size bytes:Nat) (ht:P.underlying t=some (.slice e)) (hi:(P.info? e).map (fun i=>(i.zero,i.size,i.bytes))=some (some z,size,bytes)) (hzs:z.cells.size=size) (hsz:0<size)
  (hs:∀ x,(enc x).length=size) (h1c:∀ x,∀ u∈enc x,u.oneCell'=true) (l:List α) (v:Value) (hv:a.eval sO=v) (hown:Own enc e size B w v l)
  (ad:Nat) (x:α) (hx:a.eval xO=.slice (some ⟨ad,0,none⟩) 1 1) (hnews:∀ j u,(enc x)[j]? = some u->w.cell? ⟨ad,j,none⟩=some u)
  (hlen:l.length+1<=maxLen) (hby:(l.length+1)*bytes<=140737488355328) (hB:B<=w.heap.size)
  (hK:∀ g' cap' w',Own enc e size B w' (.slice (some ⟨g',0,none⟩) (l.length+1) cap') (l ++ [x])->Only v.ownBlock.toList w w'->(v.ownBlock=some g'\/g'=w.heap.size)->wpList P ops Q rest (a.put o.dst (.slice (some ⟨g',0,none⟩) (l.length+1) cap')) w'):wpList P ops Q (o::rest) a w:=by
 cases hi':P.info? e with
 | none=>rw[hi'] at hi;simp at hi
 | some i =>
  rw[hi'] at hi;simp only[Option.map_some,Option.some.injEq,Prod.mk.injEq] at hi;obtain⟨z1,z2,z3⟩:=hi;have hadd:∀ j,(⟨ad,0,none⟩:Addr).add j=⟨ad,j,none⟩:=fun j=>by rw[addr_add];simp
  have hfl:(l ++ [x]).flatMap enc=l.flatMap enc ++ enc x:=by simp
  have hblk:w.ownsRow 0 e size v l.length (l.flatMap enc):=by
   rcases hown with ⟨rfl,rfl⟩|⟨g,cap,rfl,_,h3⟩
   ·exact⟨by simp,.inl ⟨rfl,rfl⟩⟩
   ·exact h3.owns hs (Nat.zero_le _)
  refine cB hgd sO xO t ho e i z size bytes ht hi' z1 z2 z3 hzs hsz v l.length (l.flatMap enc) hv hblk ⟨ad,0,none⟩ 1 1 (enc x) hx (by rw[hs];omega) (fun j u hj=>by rw[hadd];exact hnews j u hj) (h1c x) hlen hby (by decide) ?_;intro g' cap' w' hown' ho' hg';rw[<-hfl] at hown';refine hK _ _ _ (.inr ⟨g',cap',by simp,?_,aP.kG hown' (by simp)⟩) ho' hg';rcases hg' with h|rfl
  ·exact Own.vP hown _ (by simpa using h)
  ·exact hB
end
theorem kR (b:Nat):(wB b).length=1:=rfl
theorem WH (b:Nat):∀ u∈wB b,u.oneCell'=true:=fun u hu=>by simp[wB] at hu;subst hu;rfl
def o9 (c:Cf):Sr:=⟨UJ,⟨c.tol,[]⟩,false,false,⟨0,c.mn,c.mn,c.mx,0⟩,0,yC,LC,⟨0,0⟩,0⟩
def G9 (c:Cf) (raw time:Int):Cl:=⟨c,⟨raw,time,0,0⟩,⟨c.sv,0,0,0⟩,List.replicate c.servers.toNat (o9 c),raw,MS,raw,⟨16,0,0,0⟩,false,0⟩
def clN (c:Cf) (raw:Int) (bk bv:Nat) (v:Value):Array Value:=#[.int .i64 c.servers,.int .i64 c.tol,.int .i64 c.prec,.int .i64 c.keep,.int .i64 c.sv.kp,.int .i64 c.sv.ki,.int .i64 c.sv.lim,.int .i64 c.sv.sf,.int .i64 c.sv.sl,.int .i64 c.rate,.int .i64 c.mn,.int .i64 c.mx,.pointer (some ⟨bk,0,none⟩),.pointer (some ⟨bv,0,none⟩),v,.int .i64 raw,.int .i64 (-4503599627370496),.int .i64 4503599627370496,.int .i64 raw,.int .i64 16,.int .i64 0,.int .i64 0,.int .u32 0,.bool false,.int .i64 0]
def RL (ps:List (Nat × Nat × Nat)):List Nat:=ps.flatMap fun p=>[p.1,p.2.1,p.2.2]
structure NwS (w:World) (c:Cf) (raw time:Int) (bk bv bc:Nat) (wr:World) (ps:List (Nat × Nat × Nat)) (v:Value):Prop where
 cl:wr.heap[bc]? = some (.cells (clN c raw bk bv v) 134 (0,0))
 ck:kK wr bk ⟨raw,time,0,0⟩
 sv:lW wr bv ⟨c.sv,0,0,0⟩
 own:Own wB 135 1 w.heap.size wr v (ps.map (·.1))
 src:∀ p∈ps,rZ wr p (o9 c)
 nd:(bc::bk::bv::(v.ownBlock.toList ++ RL ps)).Nodup
 lt:∀ b∈bc::bk::bv::(v.ownBlock.toList ++ RL ps),w.heap.size<=b/\b<wr.heap.size
 only:Only [] w wr
theorem zZ (ps:List (Nat × Nat × Nat)) (b a f:Nat):RL (ps ++ [(b,a,f)])=RL ps ++ [b,a,f]:=by simp[RL]
theorem NwS.grow {w:World} {c:Cf} {raw time:Int} {bk bv bc:Nat} {wr w':World} {ps:List (Nat × Nat × Nat)} {v:Value} (h:NwS w c raw time bk bv bc wr ps v) (ho:Only [] wr w'):NwS w c raw time bk bv bc w' ps v:=
 ⟨ho.got h.cl (by simp),ho.got h.ck (by simp),ho.got h.sv (by simp),h.own.kept ho,fun p hp=>(h.src p hp).kept ho (by simp) (by simp) (by simp),h.nd,fun b hb=>⟨(h.lt b hb).1,Nat.lt_of_lt_of_le (h.lt b hb).2 ho.size⟩,h.only.aB ho⟩
theorem NwS.push {w:World} {c:Cf} {raw time:Int} {bk bv bc:Nat} {wr w4 w5:World} {ps:List (Nat × Nat × Nat)} {v:Value} {b a f g' cap':Nat} (h:NwS w c raw time bk bv bc wr ps v)
  (ho:Only [] wr w4) (hb:xM w4 b a f (o9 c)) (ha:tV w4 a UJ) (hf:jQ w4 f ⟨c.tol,[]⟩) (hbn:wr.heap.size<=b) (han:wr.heap.size<=a) (hfn:wr.heap.size<=f) (h1:b≠a) (h2:b≠f) (h3:a≠f)
  (hown:Own wB 135 1 w.heap.size w5 (.slice (some ⟨g',0,none⟩) ((ps.map (·.1)).length+1) cap') (ps.map (·.1) ++ [b])) (ho5:Only v.ownBlock.toList w4 w5) (hg:v.ownBlock=some g'\/g'=w4.heap.size) :
  NwS w c raw time bk bv bc (w5.setCell ⟨bc,14,none⟩ (.slice (some ⟨g',0,none⟩) ((ps.map (·.1)).length+1) cap')) (ps ++ [(b,a,f)]) (.slice (some ⟨g',0,none⟩) ((ps.map (·.1)).length+1) cap'):=by
 have h4:=h.grow ho;have hbl:=aD hb;have hal:=ha.lt;have hfl:=hf.lt;have hnd:=h.nd;have hlt:=h.lt;have hlt4:=h4.lt;have key:∀ x,x∈bc::bk::bv::(v.ownBlock.toList ++ RL ps)->x<wr.heap.size:=fun x hx=>(hlt x hx).2;have vb:∀ x∈v.ownBlock.toList,x∈bc::bk::bv::(v.ownBlock.toList ++ RL ps):=fun x hx=>by simp only[mem_cons,mem_append];exact .inr (.inr (.inr (.inl hx)))
 have vlt:∀ x∈v.ownBlock.toList,x<wr.heap.size:=fun x hx=>key x (vb x hx);simp only[List.nodup_cons,mem_cons,mem_append,not_or,List.nodup_append] at hnd;obtain⟨⟨n1,n2,n3,n4⟩,⟨n5,n6,n7⟩,⟨n8,n9⟩,n10,n11,n12⟩:=hnd;have hge:wr.heap.size<=w4.heap.size:=ho.size
 have g5:g'<w5.heap.size:=by
  rcases hown with ⟨he,_⟩|⟨g2,cap2,he,_,hr⟩
  ·cases he
  ·simp only[Value.slice.injEq,Option.some.injEq,Addr.mk.injEq,and_true] at he
   obtain⟨rfl,_⟩:=he;exact hr.lt
 have hsb:∀ x∈v.ownBlock.toList,x≠bc:=fun x hx e=>n3 (e ▸ hx)
 have hgn:g'=w4.heap.size\/g'∈v.ownBlock.toList:=by
  rcases hg with hg|hg
  ·exact .inr (by rw[hg];simp)
  ·exact .inl hg
 have S:Only [bc] w5 (w5.setCell ⟨bc,14,none⟩ (.slice (some ⟨g',0,none⟩) ((ps.map (·.1)).length+1) cap')):=(Only.refl [bc] w5).setCell (.inl (by simp)) _;have bc5:w5.heap[bc]? = some (.cells (clN c raw bk bv v) 134 (0,0)):=ho5.got h4.cl n3;have fresh:∀ x,wr.heap.size<=x->x ∉ v.ownBlock.toList:=fun x hx hm=>by have:=vlt x hm;omega
 have nb:∀ x,wr.heap.size<=x->x≠bc:=fun x hx e=>by have:=key bc (by simp);omega
 have gbc:g'≠bc:=by
  rcases hgn with e|e
  ·rw[e];exact nb _ hge
  ·exact hsb g' e
 refine⟨?_,?_,?_,?_,?_,?_,?_,?_⟩
 ·rw[aG _ bc5];rfl
 ·exact S.got (ho5.got h4.ck n6) (by simp;exact Ne.symm n1)
 ·exact S.got (ho5.got h4.sv n8) (by simp;exact Ne.symm n2)
 ·rw[List.map_append]
  rcases hown with ⟨he,_⟩|⟨g2,cap2,he,hge2,hr⟩
  ·cases he
  ·simp only[Value.slice.injEq,Option.some.injEq,Addr.mk.injEq,and_true] at he
   obtain⟨rfl,hn2,rfl⟩:=he;exact .inr ⟨g',cap',by simp,hge2,hr.kept S (by simpa using gbc)⟩
 ·intro p hp
  rcases mem_append.1 hp with hp|hp
  ·have hin:∀ x∈[p.1,p.2.1,p.2.2],x∈RL ps:=fun x hx=>List.mem_flatMap.2 ⟨p,hp,hx⟩
   have nn:∀ x∈[p.1,p.2.1,p.2.2],x ∉ v.ownBlock.toList/\x≠bc:=fun x hx=>⟨fun hm=>n12 x hm x (hin x hx) rfl,fun e=>n4 (e ▸ hin x hx)⟩;have q1:=nn p.1 (by simp);have q2:=nn p.2.1 (by simp);have q3:=nn p.2.2 (by simp);exact ((h4.src p hp).kept ho5 q1.1 q2.1 q3.1).kept S (by simpa using q1.2) (by simpa using q2.2) (by simpa using q3.2)
  ·simp only[mem_cons,not_mem_nil,or_false] at hp
   subst hp;exact (rZ.kept ⟨hb,ha,hf⟩ ho5 (fresh _ hbn) (fresh _ han) (fresh _ hfn)).kept S (by simpa using nb _ hbn) (by simpa using nb _ han) (by simpa using nb _ hfn)
 ·have tlt:∀ x∈RL ps,x<wr.heap.size:=fun x hx=>key x (by simp only[mem_cons,mem_append];exact .inr (.inr (.inr (.inr hx))))
  have gk:g'≠bk:=by rcases hgn with e|e;(have:=key bk (by simp);omega);exact fun e2=>n6 (e2 ▸ e)
  have gv:g'≠bv:=by rcases hgn with e|e;(have:=key bv (by simp);omega);exact fun e2=>n8 (e2 ▸ e)
  have gt:g' ∉ RL ps:=by
   rcases hgn with e|e
   ·intro hm;have:=tlt _ hm;omega
   ·intro hm;exact n12 g' e g' hm rfl
  have kb:=key bc (by simp);have kk:=key bk (by simp);have kv:=key bv (by simp)
  have gg:g'≠b/\g'≠a/\g'≠f:=by
   rcases hgn with e|e
   ·exact⟨by omega,by omega,by omega⟩
   ·have:=vlt _ e;exact⟨by omega,by omega,by omega⟩
  rw[zZ];simp only[Value.ownBlock,Option.toList_some,List.nodup_cons,mem_cons,mem_append,not_mem_nil,or_false,not_or,List.nodup_append,List.nodup_nil,and_true,not_false_eq_true];refine⟨⟨n1,n2,Ne.symm gbc,n4,by omega,by omega,by omega⟩,⟨n5,Ne.symm gk,n7,by omega,by omega,by omega⟩,⟨Ne.symm gv,n9,by omega,by omega,by omega⟩,?_⟩;refine⟨trivial,⟨n11,⟨⟨h1,h2⟩,h3⟩,?_⟩,?_⟩
  ·intro x hx y hy e
   have:=tlt x hx;rcases hy with rfl|rfl|rfl<;>omega
  ·intro x hx y hy e
   subst hx;rcases hy with hy|rfl|rfl|rfl
   ·exact gt (e ▸ hy)
   ·exact gg.1 e
   ·exact gg.2.1 e
   ·exact gg.2.2 e
 ·intro x hx
  rw[size_setCell,zZ] at *;simp only[Value.ownBlock,Option.toList_some,mem_cons,mem_append,not_mem_nil,or_false] at hx;have h5:=ho5.size;have hw:=h.only.size;have old:∀ y,y∈bc::bk::bv::(v.ownBlock.toList ++ RL ps)->w.heap.size<=y/\y<w5.heap.size:=fun y hy=>⟨(hlt y hy).1,Nat.lt_of_lt_of_le (hlt4 y hy).2 h5⟩;rcases hx with rfl|rfl|rfl|rfl|hx|rfl|rfl|rfl
  ·exact old _ (by simp)
  ·exact old _ (by simp)
  ·exact old _ (by simp)
  ·refine⟨?_,g5⟩
   rcases hgn with e|e
   ·omega
   ·exact (hlt _ (vb _ e)).1
  ·exact old _ (by simp only[mem_cons,mem_append];exact .inr (.inr (.inr (.inr hx))))
  ·exact⟨by omega,by omega⟩
  ·exact⟨by omega,by omega⟩
  ·exact⟨by omega,by omega⟩
 ·refine ((h4.only.trans ho5 (fun x hx=>.inr ?_)).setCell (.inr ?_) _)
  ·exact (hlt x (vb x hx)).1
  ·exact (hlt bc (by simp)).1
end
end Go.Proofs.YthbgcpfklmlnjaaGreat
