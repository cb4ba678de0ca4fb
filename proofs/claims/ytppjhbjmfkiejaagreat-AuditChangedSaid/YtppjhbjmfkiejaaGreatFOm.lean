/- Om On Oo Op Oq Ia Ib Ic -/
import Derived.Test.YtppjhbjmfkiejaaGreatFOg
import Derived.HandedShaped
import Derived.Lib.SmallJoins
import Derived.Maps.AppendAt
import Derived.Test.YtppjhbjmfkiejaaGreatFOa
namespace Go.Proofs.YtppjhbjmfkiejaaGreat
set_option linter.all false
open List (getElem?_eq_getElem length_append map_cons map_nil)
set_option maxRecDepth 100000
set_option maxHeartbeats 8000000
open Go.RowKit
open IntKind (wrap)
section
open Go.ChangeShapes Go.WideShapes Go.ChangeAt Go.Deep
theorem take1 {cs:List Value} {j:Nat} {v:Value} (h:cs[j]? = some v):(cs.drop j).take 1=[v]:=by
 obtain⟨hj,rfl⟩:=List.getElem?_eq_some_iff.1 h;rw[List.drop_eq_getElem_cons hj];rfl
def CU (P:Program) (f:Field):Bool:=match P.underlying f.type with
 | some (.int .i64)=>true
 | _=>false
theorem KS {P:Program} {f:Field} (h:CU P f=true):P.underlying f.type=some (.int .i64):=by
 unfold CU at h;split at h
 ·assumption
 ·cases h
section
variable {H:Type} {enc:TypeId × Value->H} {P:Program} {w:World}
theorem ints_of_struct {e:TypeId} {fs:Array Field} {fuel:Nat} {cs:List Value} {x:DataW H × List MemPlace} (hs:P.underlying e=some (.struct fs)) (hone:oneCellFields P fs=true) (hint:fs.all (CU P)=true) (hC:P.cellsOf e=fs.size)
  (h:DataW.trod enc P w 0 (fun _=>true) true fuel e cs=some x):∃ zs:List Int,zs.length=fs.size/\cs=zs.map (Value.int .i64)/\∀ z∈zs,(Lit.int .i64 z).wf=true:=by
 obtain⟨ys,n',_,hy,hlen,hyl,hf⟩:=DataW.trod_struct hs h;rw[hC] at hlen
 have key:∀ j (hj:j<cs.length),∃ z,cs[j]=Value.int .i64 z/\(Lit.int .i64 z).wf=true:=by
  intro j hj;have hjf:j<fs.size:=by omega
  have hfj:fs[j]? = some fs[j]:=Array.getElem?_eq_getElem hjf;obtain⟨ho,hk⟩:=hone_of hone j fs[j] hfj;have h1:=hf j fs[j] hfj;rw[ho,hk,take1 (getElem?_eq_getElem hj)] at h1;have hyj:ys[j]? = some (ys[j]'(by omega)):=getElem?_eq_getElem (by omega);rw[hyj] at h1;have hu:=KS (Array.all_eq_true.1 hint j hjf);obtain⟨z,hz,_,hw⟩:=DataW.trod_int hu h1;simp only[List.cons.injEq,and_true] at hz;exact⟨z,hz,hw⟩
 refine⟨cs.map fun v=>match v with | .int _ z=>z | _=>0,by simp[hlen],?_,?_⟩
 ·rw[List.map_map]
  apply List.ext_getElem (by simp)
  intro j h1 h2;obtain⟨z,hz,_⟩:=key j h1;simp[hz]
 ·intro z hz
  obtain⟨v,hv,rfl⟩:=List.mem_map.1 hz;obtain⟨j,hj,rfl⟩:=List.mem_iff_getElem.1 hv;obtain⟨z,hz,hw⟩:=key j hj;simpa [hz] using hw
end
section
variable {H:Type} {enc:TypeId × Value->H} {w:World}
theorem cO {P:Program} {e:TypeId} {fs:Array Field} {fuel:Nat} {cs:List Value} {x:DataW H × List MemPlace} (hs:P.underlying e=some (.struct fs)) (h:DataW.trod enc P w 0 (fun _=>true) true fuel e cs=some x)
  (j:Nat) (T:TypeId) (o k:Nat) (hf:(fs[j]?).map (fun f=>(f.type,f.offset,P.cellsOf f.type))=some (T,o,k)):∃ n y,DataW.trod enc P w 0 (fun _=>true) true n T ((cs.drop o).take k)=some y:=by
 obtain⟨ys,n,_,_,_,hyl,hfl⟩:=DataW.trod_struct hs h
 cases hj:fs[j]? with
 | none=>rw[hj] at hf;cases hf
 | some f =>
  rw[hj] at hf;simp only[Option.map_some,Option.some.injEq,Prod.mk.injEq] at hf;obtain⟨rfl,rfl,rfl⟩:=hf;have hlt:j<fs.size:=(Array.getElem?_eq_some_iff.1 hj).1;exact⟨n,ys[j]'(by omega),by rw[hfl j f hj];exact getElem?_eq_getElem _⟩
theorem I6 {P:Program} {e:TypeId} {fs:Array Field} {fuel:Nat} {cs:List Value} {x:DataW H × List MemPlace} (hs:P.underlying e=some (.struct fs)) (h:DataW.trod enc P w 0 (fun _=>true) true fuel e cs=some x):cs.length=P.cellsOf e:=by
 obtain⟨ys,n,_,_,hl,_⟩:=DataW.trod_struct hs h;exact hl
theorem list7 {α:Type} {l:List α} (h:l.length=7):∃ a b c d e f g,l=[a,b,c,d,e,f,g]:=by
 match l,h with
 | [a,b,c,d,e,f,g],_=>exact⟨a,b,c,d,e,f,g,rfl⟩
theorem list9 {α:Type} {l:List α} (h:l.length=9):∃ a b c d e f g i j,l=[a,b,c,d,e,f,g,i,j]:=by
 match l,h with
 | [a,b,c,d,e,f,g,i,j],_=>exact⟨a,b,c,d,e,f,g,i,j,rfl⟩
theorem list5 {α:Type} {l:List α} (h:l.length=5):∃ a b c d e,l=[a,b,c,d,e]:=by
 match l,h with
 | [a,b,c,d,e],_=>exact⟨a,b,c,d,e,rfl⟩
theorem eG {P:Program} {e:TypeId} {k:IntKind} {fuel:Nat} {v:Value} {x:DataW H × List MemPlace} (he:P.underlying e=some (.int k)) (h:DataW.trod enc P w 0 (fun _=>true) true fuel e [v]=some x):∃ z,v=.int k z/\(Lit.int k z).wf=true:=by
 obtain⟨z,h1,_,h2⟩:=DataW.trod_int he h;exact⟨z,by simpa using h1,h2⟩
theorem bool_at {P:Program} {e:TypeId} {fuel:Nat} {v:Value} {x:DataW H × List MemPlace} (he:P.underlying e=some .bool) (h:DataW.trod enc P w 0 (fun _=>true) true fuel e [v]=some x):∃ z,v=.bool z:=by
 obtain⟨z,h1,_⟩:=DataW.trod_bool he h;exact⟨z,by simpa using h1⟩
theorem nK {P:Program} {t e:TypeId} {fuel:Nat} {v:Value} {y:DataW H × List MemPlace} (ht:P.underlying t=some (.slice e)) (hf:DataW.trod enc P w 0 (fun _=>true) true fuel t [v]=some y) :
  ∃ a l c,v=.slice a l c/\DataW.Trod enc P w 0 (fun _=>true) true t (.slice a l c) y.1 y.2:=by
 obtain⟨a,l,c,h⟩:=Joins.slice_form ht hf;have hv:v=.slice a l c:=by simpa using h
 subst hv;exact⟨a,l,c,rfl,fuel,by simpa [Value.cells] using hf⟩
theorem SE {fuel:Nat} {a b:Value} {x:DataW H × List MemPlace} (h:DataW.trod enc Tryz.prog w 0 (fun _=>true) true fuel 76 [a,b]=some x):∃ c d,a=.int .i64 c/\b=.int .i64 d:=by
 obtain⟨ys,m,_,_,_,hl,hf⟩:=DataW.trod_array Tryz.underlying76 h;have hc:Tryz.prog.cellsOf 3=1:=by kernel_rfl
 have f0:=hf 0 (by decide);have f1:=hf 1 (by decide);rw[hc] at f0 f1;have g0:ys[0]? = some (ys[0]'(by omega)):=getElem?_eq_getElem (by omega);have g1:ys[1]? = some (ys[1]'(by omega)):=getElem?_eq_getElem (by omega);obtain⟨c,hc0,_⟩:=eG Tryz.underlying3 (f0.trans g0);obtain⟨d,hd0,_⟩:=eG Tryz.underlying3 (f1.trans g1);exact⟨c,d,hc0,hd0⟩
theorem VZ {p:Option Addr} {n cap:Nat} {d:DataW H} {ps:List MemPlace} (h:DataW.Trod enc Tryz.prog w 0 (fun _=>true) true 49 (.slice p n cap) d ps):∃ l:List Sg,aU TB 2 w p n cap l:=by
 obtain⟨l,hl,_⟩:=rR TB 2 (fun _=>rfl) (by decide) (fun _=>True) Tryz.underlying49 (by kernel_rfl) h (fun fuel cs x hx=>by
  obtain⟨zs,h1,rfl,_⟩:=ints_of_struct Tryz.underlying48 (by kernel_rfl) (by kernel_rfl) (by kernel_rfl) hx;match zs,h1 with
  | [a,b],_=>exact⟨⟨a,b⟩,rfl,trivial⟩)
 exact⟨l,hl⟩
theorem V9 {p:Option Addr} {n cap:Nat} {d:DataW H} {ps:List MemPlace} (h:DataW.Trod enc Tryz.prog w 0 (fun _=>true) true 77 (.slice p n cap) d ps):∃ l:List Ch,aU chC 3 w p n cap l:=by
 obtain⟨l,hl,_⟩:=rR chC 3 (fun _=>rfl) (by decide) (fun _=>True) Tryz.underlying77 (by kernel_rfl) h (fun fuel cs x hx=>by
  obtain⟨zs,h1,rfl,_⟩:=ints_of_struct Tryz.underlying237 (by kernel_rfl) (by kernel_rfl) (by kernel_rfl) hx;match zs,h1 with
  | [a,b,c],_=>exact⟨⟨a,b,c⟩,rfl,trivial⟩)
 exact⟨l,hl⟩
theorem V8 {p:Option Addr} {n cap:Nat} {d:DataW H} {ps:List MemPlace} (h:DataW.Trod enc Tryz.prog w 0 (fun _=>true) true 24 (.slice p n cap) d ps):∃ l:List Ft,aU ftC 5 w p n cap l:=by
 obtain⟨l,hl,_⟩:=rR ftC 5 (fun _=>rfl) (by decide) (fun _=>True) Tryz.underlying24 (by kernel_rfl) h (fun fuel cs x hx=>by
  obtain⟨zs,h1,rfl,_⟩:=ints_of_struct Tryz.underlying44 (by kernel_rfl) (by kernel_rfl) (by kernel_rfl) hx;match zs,h1 with
  | [a,b,c,d,e],_=>exact⟨⟨a,b,c,d,e⟩,rfl,trivial⟩)
 exact⟨l,hl⟩
theorem V7 {p:Option Addr} {n cap:Nat} {d:DataW H} {ps:List MemPlace} (h:DataW.Trod enc Tryz.prog w 0 (fun _=>true) true 52 (.slice p n cap) d ps):∃ l:List Int,aU wN 1 w p n cap l:=by
 obtain⟨l,hl,_⟩:=SX (k:=.i64) Tryz.underlying52 Tryz.underlying3 (by kernel_rfl) h;exact⟨l,hl⟩
theorem V5 {p:Option Addr} {n cap:Nat} {d:DataW H} {ps:List MemPlace} (h:DataW.Trod enc Tryz.prog w 0 (fun _=>true) true 22 (.slice p n cap) d ps) :
  ∃ l:List wK,aU ndC 7 w p n cap l/\∀ x∈l,aU TB 2 w x.ps x.n.sg.length x.cs x.n.sg/\aU wN 1 w x.pv x.n.sv.length x.cv x.n.sv:=
 rR ndC 7 Q6 (by decide) _ Tryz.underlying22 (by kernel_rfl) h (fun fuel cs x hx=>by
  have hs:=Tryz.underlying54;obtain⟨v0,v1,v2,v3,v4,v5,v6,rfl⟩:=list7 ((I6 hs hx).trans (by kernel_rfl));obtain⟨n1,y1,g1⟩:=cO hs hx 0 51 0 2 (by kernel_rfl);obtain⟨n2,y2,g2⟩:=cO hs hx 1 3 2 1 (by kernel_rfl);obtain⟨n3,y3,g3⟩:=cO hs hx 2 4 3 1 (by kernel_rfl);obtain⟨n4,y4,g4⟩:=cO hs hx 3 3 4 1 (by kernel_rfl);obtain⟨n5,y5,g5⟩:=cO hs hx 4 3 5 1 (by kernel_rfl);obtain⟨n6,y6,g6⟩:=cO hs hx 5 52 6 1 (by kernel_rfl);have ho:=Tryz.underlying51;obtain⟨n7,y7,g7⟩:=cO ho g1 0 3 0 1 (by kernel_rfl);obtain⟨n8,y8,g8⟩:=cO ho g1 1 49 1 1 (by kernel_rfl);obtain⟨ph,rfl,_⟩:=eG Tryz.underlying3 g7;obtain⟨ps,ns,cs',rfl,t1⟩:=nK Tryz.underlying49 g8;obtain⟨tol,rfl,_⟩:=eG Tryz.underlying3 g2;obtain⟨rf,rfl⟩:=bool_at Tryz.underlying4 g3;obtain⟨er,rfl,_⟩:=eG Tryz.underlying3 g4;obtain⟨st,rfl,_⟩:=eG Tryz.underlying3 g5;obtain⟨pv,nv,cv,rfl,t2⟩:=nK Tryz.underlying52 g6;obtain⟨sg,r1⟩:=VZ t1;obtain⟨sv,r2⟩:=V7 t2;have e1:=r1.len;have e2:=r2.len;subst e1;subst e2;exact⟨⟨⟨ph,sg,tol,rf,er,st,sv⟩,ps,cs',pv,cv⟩,rfl,r1,r2⟩)
theorem V6 {p:Option Addr} {n cap:Nat} {d:DataW H} {ps:List MemPlace} (h:DataW.Trod enc Tryz.prog w 0 (fun _=>true) true 23 (.slice p n cap) d ps) :
  ∃ l:List jA,aU lkC 9 w p n cap l/\∀ x∈l,aU chC 3 w x.p x.l.ch.length x.c x.l.ch:=
 rR lkC 9 Q8 (by decide) _ Tryz.underlying23 (by kernel_rfl) h (fun fuel cs x hx=>by
  have hs:=Tryz.underlying81;obtain⟨v0,v1,v2,v3,v4,v5,v6,v7,v8,rfl⟩:=list9 ((I6 hs hx).trans (by kernel_rfl));obtain⟨n0,y0,g0⟩:=cO hs hx 0 3 0 1 (by kernel_rfl);obtain⟨n1,y1,g1⟩:=cO hs hx 1 3 1 1 (by kernel_rfl);obtain⟨n2,y2,g2⟩:=cO hs hx 2 79 2 7 (by kernel_rfl);have ho:=Tryz.underlying79;obtain⟨n3,y3,g3⟩:=cO ho g2 0 76 0 2 (by kernel_rfl);obtain⟨n4,y4,g4⟩:=cO ho g2 1 76 2 2 (by kernel_rfl);obtain⟨n5,y5,g5⟩:=cO ho g2 2 3 4 1 (by kernel_rfl);obtain⟨n6,y6,g6⟩:=cO ho g2 3 25 5 1 (by kernel_rfl);obtain⟨n7,y7,g7⟩:=cO ho g2 4 77 6 1 (by kernel_rfl);obtain⟨A,rfl,_⟩:=eG Tryz.underlying3 g0;obtain⟨B,rfl,_⟩:=eG Tryz.underlying3 g1;obtain⟨d0,d1,q0,q1⟩:=SE g3;obtain⟨e0,e1,q2,q3⟩:=SE g4;subst q0;subst q1;subst q2;subst q3;obtain⟨lo,rfl,_⟩:=eG Tryz.underlying3 g5;obtain⟨sd,rfl,_⟩:=eG Tryz.underlying25 g6;obtain⟨pc,nc,cc,rfl,t1⟩:=nK Tryz.underlying77 g7;obtain⟨ch,r1⟩:=V9 t1;have e2:=r1.len;subst e2;exact⟨⟨⟨A,B,d0,d1,e0,e1,lo,sd,ch⟩,pc,cc⟩,rfl,r1⟩)
theorem XB {r:Reach} {b0:Nat} {v:Value} {d:DataW H} {p:List MemPlace} (hv:Value.okWide Tryz.prog w r b0 27 v) (h:DataW.Trod enc Tryz.prog w 0 (fun _=>true) true 27 v d p):∃ s:dW,v=fT s/\s.Ok0 w:=by
 have hs:=Tryz.underlying27;obtain⟨cs,rfl,hsz⟩:=okWide_struct hs hv;obtain⟨fuel,hx⟩:=h;have hx:DataW.trod enc Tryz.prog w 0 (fun _=>true) true fuel 27 cs.toList=some (d,p):=hx;obtain⟨v0,v1,v2,v3,v4,hcs⟩:=list5 ((I6 hs hx).trans (by kernel_rfl));rw[hcs] at hx;obtain⟨n0,y0,g0⟩:=cO hs hx 0 22 0 1 (by kernel_rfl);obtain⟨n1,y1,g1⟩:=cO hs hx 1 23 1 1 (by kernel_rfl);obtain⟨n2,y2,g2⟩:=cO hs hx 2 24 2 1 (by kernel_rfl);obtain⟨n3,y3,g3⟩:=cO hs hx 3 3 3 1 (by kernel_rfl);obtain⟨n4,y4,g4⟩:=cO hs hx 4 25 4 1 (by kernel_rfl);obtain⟨pn,ln,cn,rfl,t0⟩:=nK Tryz.underlying22 g0;obtain⟨pl,ll,cl,rfl,t1⟩:=nK Tryz.underlying23 g1;obtain⟨pf,lf,cf,rfl,t2⟩:=nK Tryz.underlying24 g2;obtain⟨un,rfl,_⟩:=eG Tryz.underlying3 g3;obtain⟨sd,rfl,_⟩:=eG Tryz.underlying25 g4;obtain⟨nd,r0,q0⟩:=V5 t0;obtain⟨lk,r1,q1⟩:=V6 t1;obtain⟨ft,r2⟩:=V8 t2;have e0:=r0.len;have e1:=r1.len;have e2:=r2.len;subst e0;subst e1;subst e2;refine⟨⟨nd,lk,ft,un,sd,pn,cn,pl,cl,pf,cf⟩,?_,⟨r0,r1,r2,q0,q1⟩⟩;unfold fT;congr 1
 exact Array.ext' hcs
theorem UH {r:Reach} {b0:Nat} {v:Value} {d:DataW H} {ps:List MemPlace} (hval:Value.okWide Tryz.prog w r b0 31 v) (h:DataW.Trod enc Tryz.prog w 0 (fun _=>true) true 31 v d ps):∃ c:Cf,v=JB c:=by
 obtain⟨cs,rfl,hsz⟩:=okWide_struct Tryz.underlying31 hval;obtain⟨m,hx⟩:=h;have hs:=Tryz.underlying31;obtain⟨l⟩:=cs;have hl:l.length=12:=(I6 hs hx).trans (by kernel_rfl);match l,hl,hx with
 | [v0,v1,v2,v3,v4,v5,v6,v7,v8,v9,v10,v11],_,hx =>
  simp only[Value.cells] at hx;obtain⟨n0,y0,g0⟩:=cO hs hx 0 3 0 1 (by kernel_rfl);obtain⟨n1,y1,g1⟩:=cO hs hx 1 3 1 1 (by kernel_rfl);obtain⟨n2,y2,g2⟩:=cO hs hx 2 3 2 1 (by kernel_rfl);obtain⟨n3,y3,g3⟩:=cO hs hx 3 3 3 1 (by kernel_rfl);obtain⟨n4,y4,g4⟩:=cO hs hx 4 29 4 5 (by kernel_rfl);obtain⟨n5,y5,g5⟩:=cO hs hx 5 3 9 1 (by kernel_rfl);obtain⟨n6,y6,g6⟩:=cO hs hx 6 3 10 1 (by kernel_rfl);obtain⟨n7,y7,g7⟩:=cO hs hx 7 3 11 1 (by kernel_rfl);obtain⟨z0,rfl,_⟩:=eG Tryz.underlying3 g0;obtain⟨z1,rfl,_⟩:=eG Tryz.underlying3 g1;obtain⟨z2,rfl,_⟩:=eG Tryz.underlying3 g2;obtain⟨z3,rfl,_⟩:=eG Tryz.underlying3 g3;obtain⟨z5,rfl,_⟩:=eG Tryz.underlying3 g5;obtain⟨z6,rfl,_⟩:=eG Tryz.underlying3 g6;obtain⟨z7,rfl,_⟩:=eG Tryz.underlying3 g7;have hv:=Tryz.underlying29;obtain⟨_,_,i0⟩:=cO hv g4 0 3 0 1 (by kernel_rfl);obtain⟨s0,rfl,_⟩:=eG Tryz.underlying3 i0;obtain⟨_,_,i1⟩:=cO hv g4 1 3 1 1 (by kernel_rfl);obtain⟨s1,rfl,_⟩:=eG Tryz.underlying3 i1;obtain⟨_,_,i2⟩:=cO hv g4 2 3 2 1 (by kernel_rfl);obtain⟨s2,rfl,_⟩:=eG Tryz.underlying3 i2;obtain⟨_,_,i3⟩:=cO hv g4 3 3 3 1 (by kernel_rfl);obtain⟨s3,rfl,_⟩:=eG Tryz.underlying3 i3;obtain⟨_,_,i4⟩:=cO hv g4 4 3 4 1 (by kernel_rfl);obtain⟨s4,rfl,_⟩:=eG Tryz.underlying3 i4;exact⟨⟨z0,z1,z2,z3,⟨s0,s1,s2,s3,s4⟩,z5,z6,z7⟩,rfl⟩
end
theorem rnds_of {W:World} (h:W.ShapedOpen Tryz.prog):∃ R,rQ W R:=by
 obtain⟨zero,hz⟩:∃ zero,((begin Tryz.prog (fun _ _=>0) default).world.heap[(2:Nat)]?).bind Obj.row? = some (zero,301)/\zero.size=6:=⟨#[.int .u64 0,.int .u64 0,.int .u64 0,.int .u64 0,.int .u64 0,.int .u64 0],by kernel_rfl,rfl⟩;obtain⟨cs,hh,hs,hr⟩:=h.1 2 zero 301 (by decide +kernel) hz.1;obtain⟨ts,hts,_,hall⟩:=hr (by kernel_rfl);have hts2:Tryz.prog.cellTypes Tryz.prog.depth 301=some [232,25,232,25,232,25]:=by kernel_rfl
 rw[hts2] at hts
 cases hts
 rw[hz.2] at hs
 have key:∀ i (hi:i<6),∃ n,cs[i]? = some (.int .u64 n)/\0<=n:=fun i hi=>by
  have h1:i<cs.size:=by omega
  obtain⟨u,hu,hok⟩:=hall i cs[i] (by simp[h1])
  have hu2:Tryz.prog.underlying u=some (.int .u64):=by
   have e:i=0\/i=1\/i=2\/i=3\/i=4\/i=5:=by omega
   have e2:u=232\/u=25:=by
    rcases e with rfl|rfl|rfl|rfl|rfl|rfl
    ·exact .inl (by simpa using hu.symm)
    ·exact .inr (by simpa using hu.symm)
    ·exact .inl (by simpa using hu.symm)
    ·exact .inr (by simpa using hu.symm)
    ·exact .inl (by simpa using hu.symm)
    ·exact .inr (by simpa using hu.symm)
   rcases e2 with rfl|rfl
   ·exact Tryz.underlying232
   ·exact Tryz.underlying25
  unfold Cell.ok at hok;rw[hu2] at hok;rw[Array.getElem?_eq_getElem h1]
  cases hv:cs[i]<;>rw[hv] at hok<;>simp at hok
  case int k' n =>
   obtain⟨rfl,hn⟩:=hok;refine⟨n,rfl,?_⟩;have:=hn.1;simpa [IntKind.min,IntKind.signed] using this
 obtain⟨s0,e0,z0⟩:=key 0 (by omega);obtain⟨m0,e1,_⟩:=key 1 (by omega);obtain⟨s1,e2,z1⟩:=key 2 (by omega);obtain⟨m1,e3,_⟩:=key 3 (by omega);obtain⟨s2,e4,z2⟩:=key 4 (by omega);obtain⟨m2,e5,_⟩:=key 5 (by omega);refine⟨[(s0,m0),(s1,m1),(s2,m2)],s0,m0,s1,m1,s2,m2,rfl,z0,z1,z2,?_⟩;rw[hh];congr 2
 apply Array.ext (by simpa using hs)
 intro i h1 h2;have e:i=0\/i=1\/i=2\/i=3\/i=4\/i=5:=by omega
 rw[Array.getElem?_eq_some_iff] at e0 e1 e2 e3 e4 e5;rcases e with rfl|rfl|rfl|rfl|rfl|rfl
 ·exact e0.2
 ·exact e1.2
 ·exact e2.2
 ·exact e3.2
 ·exact e4.2
 ·exact e5.2
end
section
open Go.Sort
theorem CQ {b:Nat}:∀ {L:List gG},b∈IB L->∃ p∈L,p.own=true/\p.b=b
 | q::L,h=>by
  unfold IB at h;split at h
  ·rename_i ho
   rcases List.mem_cons.1 h with rfl|h
   ·exact⟨q,List.mem_cons_self ..,ho,rfl⟩
   ·obtain⟨p,h1,h2,h3⟩:=CQ h
    exact⟨p,List.mem_cons_of_mem _ h1,h2,h3⟩
  ·obtain⟨p,h1,h2,h3⟩:=CQ h
   exact⟨p,List.mem_cons_of_mem _ h1,h2,h3⟩
theorem Mm.back {w0 w:World} {S:List Nat} {L:List gG} {w':World} (h:Mm w0 S w L) (o:Oy (IB L) w w'):Oy S w0 w':=h.out.only.trans o fun x hx=>by
 obtain⟨p,h1,h2,rfl⟩:=CQ hx;exact h.out.own p h1 h2
theorem tF.one {c c1 c2:Cl} {raw e1 e2:Int} {a1 a2:Ac} (h1:tF c raw a1 e1 c1) (h2:tF c raw a2 e2 c2):a1=a2/\e1=e2/\c1=c2:=by
 rcases h1 with ⟨q1,q2,q3,q4⟩|⟨q1,h1⟩<;>rcases h2 with ⟨r1,r2,r3,r4⟩|⟨r1,h2⟩
 ·exact⟨q2.trans r2.symm,q3.trans r3.symm,q4.trans r4.symm⟩
 ·exact absurd r1 q1
 ·exact absurd q1 r1
 ·rcases h1 with ⟨p1,p2,p3,p4⟩|⟨i1,v1,g1,s1,t1⟩<;>rcases h2 with ⟨u1,u2,u3,u4⟩|⟨i2,v2,g2,s2,t2⟩
  ·exact⟨p3.trans u3.symm,p2.trans u2.symm,p4.trans u4.symm⟩
  ·exact absurd (p2.trans (wX g2 s2)) p1
  ·exact absurd (u2.trans (wX g1 s1)) u1
  ·have hi:i1=i2:=by rw[s1] at s2;exact (Prod.mk.inj (Option.some.inj s2)).1
   subst hi;have:=t1.trans t2.symm;simp only[Prod.mk.injEq] at this;exact⟨this.1,this.2.1,this.2.2⟩
theorem tH.one {R:List (Int × Int)} {s:eU} {a b c:bT} (h:tH R s a b) (k:tH R s a c):b=c:=by
 obtain⟨x,r,h1,h2⟩:=h;obtain⟨y,r',k1,k2⟩:=k;rw[h1] at k1;obtain⟨rfl,rfl⟩:=List.cons.inj k1;revert h2 k2
 cases a.ev.getD x.x.toNat (.poll ⟨0,0,0,0⟩) with
 | poll p=>exact fun h k=>h.trans k.symm
 | req p h=>exact fun h k=>h.trans k.symm
 | dep p h v=>exact fun h k=>h.trans k.symm
 | rep p h v =>
  unfold EL;dsimp only;split
  ·exact fun h=>h.elim
  ·rintro⟨a1,e1,c1,u1,rfl⟩ ⟨a2,e2,c2,u2,rfl⟩
   obtain⟨rfl,rfl,rfl⟩:=tF.one u1 u2;rfl
theorem rP.one {R:List (Int × Int)} {s:eU} {a b c:bT} (h:rP R s a b) (k:rP R s a c):b=c:=by
 induction h with
 | done h =>
  cases k with
  | done _=>rfl
  | step k _=>obtain⟨x,r,k1,_⟩:=k;rw[h] at k1;cases k1
 | step h _ ih =>
  cases k with
  | done k=>obtain⟨x,r,k1,_⟩:=h;rw[k] at k1;cases k1
  | step k1 k2=>exact ih (h.one k1 ▸ k2)
end
section
open Go.Sort
end
section
open Go.Sort
theorem run_append_nothing {P:Program} (w:World) (t ty e:TypeId) (i:TypeInfo) (ht:P.underlying t=some (.slice e)) (hi:P.info? e=some i) (p:Option Addr) (n cap:Nat) (h:n<=cap) :
  (Builtin.append_ #[t,t] ty #[.slice p n cap,.slice none 0 0]).run P w=.ok (.slice p n cap) w:=by
 cases p with
 | none=>simp[Builtin.append_,run_underlying ht,sizeOf,typeInfo,hi,Builtin.lenOf,h,Builtin.firstCells]
 | some a=>simp[Builtin.append_,run_underlying ht,sizeOf,typeInfo,hi,Builtin.lenOf,h,Builtin.firstCells,storeCells]
theorem kY {α:Type} {P:Program} {w:World} {ops:Array Oper} {rest:List Oper} {o:Oper} {a:Act} {Q:Exit->Act->World->Prop} (hgd:o.guard=none) (sO xO:Operand) (t:TypeId)
  (ho:o.op=.call { callee:=.builtin .append,args:=#[sO,xO],argTypes:=#[t,t] })
  (e:TypeId) (z:Value) (size bytes B:Nat) (ht:P.underlying t=some (.slice e)) (hi:(P.info? e).map (fun i=>(i.zero,i.size,i.bytes))=some (some z,size,bytes)) (hzs:z.cells.size=size) (hsz:0<size)
  (enc:α->List Value) (hs:∀ x,(enc x).length=size) (h1c:∀ x,∀ u∈enc x,u.oneCell'=true) (l:List α) (v:Value) (hv:a.eval sO=v) (hown:Own enc e size B w v l)
  (p:Option Addr) (n cap:Nat) (l2:List α) (hx:a.eval xO=.slice p n cap) (hrow:aU enc size w p n cap l2)
  (hlen:l.length+l2.length<=maxLen) (hby:(l.length+l2.length)*bytes<=140737488355328) (hB:B<=w.heap.size)
  (hK:∀ v' w',Own enc e size B w' v' (l ++ l2)->(∀ k∈v'.ownBlock.toList,k∈v.ownBlock.toList\/w.heap.size<=k)->Oy v.ownBlock.toList w w'->wpList P ops Q rest (a.put o.dst v') w'):wpList P ops Q (o::rest) a w:=by
 cases hi':P.info? e with
 | none=>rw[hi'] at hi;simp at hi
 | some i =>
  rw[hi'] at hi;simp only[Option.map_some,Option.some.injEq,Prod.mk.injEq] at hi;obtain⟨z1,z2,z3⟩:=hi;have hn:=hrow.len;subst hn
  cases p with
  | none =>
   have hc:=hrow.nil rfl;have hle:=hrow.le;have h0:l2=[]:=List.eq_nil_of_length_eq_zero (by omega);subst h0;subst hc
   obtain⟨q,m,c,rfl,hmc⟩:∃ q m c,v=.slice q m c/\m<=c:=by
    rcases hown with ⟨rfl,rfl⟩|⟨g,cap,rfl,_,h3⟩
    ·exact⟨none,0,0,rfl,Nat.le_refl _⟩
    ·obtain⟨_,_,_,h5,_⟩:=h3
     exact⟨_,_,_,rfl,h5⟩
   have hr:=run_append_nothing (P:=P) w t o.type e i ht hi' q m c hmc;refine wpList_plain hgd fun K hK'=>?_;unfold Oper.wp execOp;simp only[List.length_nil] at hx;simp only[ho,resolve,invoke,builtin,Sem.run_bind,Sem.run_pure,Result.andThen_ok,List.map_toArray,map_cons,map_nil,hv,hx,hr];exact hK' _ _ (hK _ _ (by rw[List.append_nil];exact hown) (fun k hk=>.inl hk) (aR _ _))
  | some ad =>
   have hblk:w.ownsRow B e size v l.length (l.flatMap enc):=by
    rcases hown with ⟨rfl,rfl⟩|⟨g,cap,rfl,h2,h3⟩
    ·exact⟨by simp,.inl ⟨rfl,rfl⟩⟩
    ·exact h3.owns hs h2
   have hnews:∀ j u,(l2.flatMap enc)[j]? = some u->w.cell? (ad.add j)=some u:=by
    intro j u hj;have hjl:=(List.getElem?_eq_some_iff.1 hj).1;rw[dK enc size hs] at hjl;have hq:j / size<l2.length:=Nat.div_lt_of_lt_mul (by rw[Nat.mul_comm];exact hjl);have hd:j=j / size*size+j % size:=by rw[Nat.mul_comm];exact (Nat.div_add_mod j size).symm
    obtain⟨b,off,hp,-,hcell⟩:=hrow.cell (j / size) l2[j / size] (getElem?_eq_getElem hq)
    cases hp
    have h1:=flat_get enc size hs l2 (j / size) (j % size) l2[j / size] (getElem?_eq_getElem hq) (Nat.mod_lt _ hsz);rw[<-hd,hj] at h1;have h2:=hcell (j % size) u h1.symm;rw[<-hd] at h2;rw[addr_add];exact h2
   obtain⟨v',w',hr,k1,k2,-,k3⟩:=run_append_own_at (P:=P) w B t o.type e i z size bytes ht hi' z1 z2 z3 hzs hsz v l.length (l.flatMap enc) hblk ad l2.length cap (l2.flatMap enc) (by rw[dK enc size hs]) hnews (fun u hu=>by
    obtain⟨x,-,hxu⟩:=List.mem_flatMap.1 hu;exact h1c x u hxu) hlen hby hB
   have hown':Own enc e size B w' v' (l ++ l2):=by
    rw[<-List.flatMap_append] at k1;rcases k1.2 with ⟨rfl,h0⟩|⟨g,c,cur,rfl,hbg,hg,hnc,hcm,hcs,htk⟩
    ·refine .inl ⟨rfl,List.eq_nil_of_length_eq_zero (by rw[length_append];exact h0)⟩
    ·exact .inr ⟨g,c,by rw[length_append],hbg,cur,hg,hcs,by rw[length_append];exact hnc,hcm,by rw[length_append];exact htk⟩
   refine wpList_plain hgd fun K hK'=>?_;unfold Oper.wp execOp;simp only[ho,resolve,invoke,builtin,Sem.run_bind,Sem.run_pure,Result.andThen_ok,List.map_toArray,map_cons,map_nil,hv,hx,hr];exact hK' _ _ (hK _ _ hown' (fun k hk=>by rcases k3 with q|q<;>rw[q] at hk;exact .inl hk;exact .inr (by simp at hk;omega)) ((aR _ w).grown k2 (by intro k hk;left;rw[hk];simp)))
end
section
open Go.Sort
theorem yR {P:Program} {w0 w W:World} {S:List Nat} {L:List gG} {Q:Exit->Act->World->Prop} {l:List Oper} {TL:List Nat} {f:Nat} {listed:Array Bool} {a:Act} (rs:List Nat) [m:Mm w0 S w L] (hC:Oy [] W w) (h:∀ w1,Oy [] w w1->Mm w0 S w1 L->Facts w1 L->∀ i∈rs,wpOp P l.toArray (bA (pI Q)) i (fun a' w'=>Yg P l Q TL W f (listed.setIfInBounds i true) a' w') a w1) (hr:Region.ready .any l.toArray listed=rs:=by decide +kernel) (hne:rs.isEmpty=false:=by rfl):Yg P l Q TL W (f+1) listed a w:=yM rs hr hne (.inr hC) h
theorem Mm.tl {w0 w:World} {S:List Nat} {p:gG} {L:List gG} (h:Mm w0 S w (p::L)):Mm w0 S w L:=⟨⟨h.out.only,h.out.got.2,(List.pairwise_cons.1 h.out.nd).2,fun q hq=>h.out.own q (List.mem_cons_of_mem _ hq)⟩⟩
theorem Own.DU {α:Type} {enc:α->List Value} {e:TypeId} {s B:Nat} {w:World} {v:Value} {l:List α} (h:Own enc e s B w v l):∀ x∈v.ownBlock.toList,B<=x/\x<w.heap.size:=by
 intro x hx;rcases h with ⟨rfl,-⟩|⟨g,cap,rfl,h2,h3⟩
 ·simp[Value.ownBlock] at hx
 ·simp only[Value.ownBlock,Option.toList_some,List.mem_singleton] at hx
  subst hx;exact⟨h2,h3.lt⟩
theorem UE {α:Type} {enc:α->List Value} {e:TypeId} {s B:Nat} {w:World} {b:Nat} (h:w.heap[b]? = some (.cells ([]:List Value).toArray e (0,0))) (hB:B<=b):Own enc e s B w (.slice (some ⟨b,0,none⟩) 0 0) []:=
 .inr ⟨b,0,rfl,hB,#[],h,by simp,Nat.le_refl _,by unfold maxLen;omega,by simp⟩
theorem row_one {α:Type} {enc:α->List Value} {e:TypeId} {s:Nat} (hs:∀ x,(enc x).length=s) {w:World} {b:Nat} {x:α} (h:w.heap[b]? = some (.cells (enc x).toArray e (0,0))):aU enc s w (some ⟨b,0,none⟩) 1 1 [x]:=
 aO.dI (e:=e) hs ⟨_,h,by simp[hs],Nat.le_refl _,by unfold maxLen;omega,by have:=hs x;simp[<-this]⟩ rfl
end
section
open Go.Sort
def icF (s:eU) (n:Int):Bool:=decide (0<=n/\n<s.nd.length) && uP (bX s n)
theorem pIsCl {w:World} (s:dW) (hv:aU ndC 7 w s.pn s.nd.length s.cn s.nd) (n:Int) :
  Calls Tryz.prog 50 #[fT s,.int .i64 n] w fun e w'=>e=.returned (.bool (icF s.sc n))/\Oy [] w w':=by
 obtain⟨res,HE⟩:∃ r,Hid (icF s.sc n=r):=⟨_,aA rfl⟩;rw[HE.out];have hE:=HE.out;unfold icF at hE;have hnl:s.sc.nd.length=s.nd.length:=by unfold dW.sc;simp
 rw[hnl] at hE;have HV:=aA hv;unfold fT;clear HE hnl hv;by_cases h0:0<=n
 focus
  by_cases h1:n<s.nd.length
  focus
   rw[decide_eq_true ⟨h0,h1⟩,Bool.true_and] at hE;obtain⟨i,rfl⟩:=Int.eq_ofNat_of_zero_le h0;have hi:i<s.nd.length:=by omega
   rw[fH] at hE;obtain⟨bk,off,hpn,-⟩:=HV.out.nd (aR [] w) hi
   have HX:=aA (show ∀ w',Oy [] w w'->bk<w'.heap.size/\w'.cell? ⟨bk,off+i*7+3,none⟩=some (.bool (s.nd.getD i bD).n.rf)/\w'.cell? ⟨bk,off+i*7+6,none⟩=some (.slice (s.nd.getD i bD).pv (s.nd.getD i bD).n.sv.length (s.nd.getD i bD).cv) from fun w' o=>by
    obtain⟨b',o',e,c1,-,-,-,c5,-,-,c8⟩:=HV.out.nd o hi;rw[hpn] at e
    cases e
    exact⟨c1,c5,c8⟩)
   rw[hpn];unfold uP at hE;have d0:decide ((i:Int) >= 0)=true:=eY (by omega);have d1:decide ((i:Int)<(s.nd.length:Int))=true:=eY h1;generalize (s.nd.getD i bD)=x at HX hE;obtain⟨⟨n1,n2,n3,n4,n5,n6,n7⟩,ps,cs,pv,cv⟩:=x;dsimp only at HX hE;generalize n7.length=l at HX hE;have h:decide (0<(l:Int))=decide (0<l):=by rw[Bool.eq_iff_iff];simp
   have HE:=aA hE;clear hE h0 hpn HV;obtain⟨wo,rfl⟩:∃ wo:World,wo=w:=⟨_,rfl⟩
   cases n4 <;>
   ·have m:=bJ wo [];have k:=m.zK;have c:=HX.out wo (aR _ _)
    go_enter Tryz.func50,Tryz.ntmps50
    go_wp2_with (first|((with_reducible first|refine cU ?_|refine wU ?_);clear k m c;intro w m k;have c:=HX.out w m.zO)|((with_reducible refine lE (fun w o g k K hK=>⟨rfl,?_⟩));simp[results,Tryz.results50,go_sem];refine hK _ ?_;exact⟨by rw[<-HE.out];simp[h],o⟩))
  rotate_left
  rw[dL (by omega),Bool.false_and] at hE;have d1:decide (n<(s.nd.length:Int))=false:=dL h1;subst hE;clear HV h0 h1
 rotate_left
 focus
  rw[dL (by omega),Bool.false_and] at hE;have d0:decide (0<=n)=false:=dL h0;subst hE;clear HV h0
 rotate_left
 all_goals
  have m:=bJ w [];have k:=m.zK;go_enter Tryz.func50,Tryz.ntmps50
  go_wp2_with (first|((with_reducible first|refine cU ?_|refine wU ?_);clear k m;intro w m k)|((with_reducible refine lE (fun w o g k K hK=>⟨rfl,?_⟩));simp[results,Tryz.results50,go_sem];refine hK _ ?_;exact⟨rfl,o⟩))
def EC (n:Int):Bool:=decide (-4503599627370496<=n/\n<=4503599627370496)
theorem uJ (n:Int) (w:World) :
  Calls Tryz.prog 51 #[.int .i64 n] w fun e w'=>e=.returned (.bool (EC n))/\Oy [] w w':=by
 unfold EC;obtain⟨r,hr⟩:∃ r,decide (-4503599627370496<=n/\n<=4503599627370496)=r:=⟨_,rfl⟩;rw[hr];have HE:=aA hr;clear hr;have m:=bJ w [];have k:=m.zK;go_enter Tryz.func51,Tryz.ntmps51
 go_wp2_with (first|((with_reducible refine wU ?_);clear k m;intro w m k)|((with_reducible refine lE (fun w o g k K hK=>⟨rfl,?_⟩));simp[results,Tryz.results51,go_sem];refine hK _ ?_;exact⟨by rw[<-HE.out];grind,o⟩))
end
section
open Go.Sort
def vOk (s:eU) (la:Int) (x:iD):Bool:=icF s x.nd && !decide (x.at_<la) && !decide (s.un<x.at_) && EC x.raw && EC x.clk && bU ⟨x.lo,x.hi⟩
def A8 (s:eU):Int->List iD->Bool
 | _,[]=>true
 | la,x::r=>vOk s la x && A8 s x.at_ r
def lC (s:eU) (l:List iD):Bool:=decide (l.length<=400) && A8 s 0 l
theorem QL {w:World} (s:dW) (hv:aU ndC 7 w s.pn s.nd.length s.cn s.nd) {l:List iD} {p:Option Addr} {cp:Nat} (ha:aU kC 9 w p l.length cp l) :
  Calls Tryz.prog 29 #[fT s,.slice p l.length cp] w fun e w'=>e=.returned (.bool (lC s.sc l))/\Oy [] w w':=by
 have HA:=aA ha;have HIC:=aA (fun n w' (o:Oy [] w w')=>pIsCl s (hv.kept o) n);have hlen:l.length<=maxLen:=Nat.le_trans ha.le ha.cm;clear ha hv;obtain⟨res,HE⟩:∃ r,Hid (lC s.sc l=r):=⟨_,aA rfl⟩;rw[HE.out];unfold fT at *;obtain⟨wo,rfl⟩:∃ wo:World,wo=w:=⟨_,rfl⟩;have m:=bJ wo [];have k:=m.zK;by_cases h4:400<l.length
 ·have d0:decide ((400:Int)<(l.length:Int))=true:=eY (by omega)
  have hE:=HE.out;unfold lC at hE;rw[dL (by omega),Bool.false_and] at hE;subst hE;go_enter Tryz.func29,Tryz.ntmps29
  go_wp2_with (first|((with_reducible first|refine cU ?_|refine wU ?_);clear k m;intro w m k)|((with_reducible refine lE (fun w o g k K hK=>⟨rfl,?_⟩));simp[results,Tryz.results29,go_sem];refine hK _ ?_;exact⟨rfl,o⟩))
 have d0:decide ((400:Int)<(l.length:Int))=false:=dL (by omega);have hE:=HE.out;unfold lC at hE;rw[eY (by omega),Bool.true_and] at hE;replace HE:=aA hE;clear hE;go_enter Tryz.func29,Tryz.ntmps29
 go_wp2_with ((with_reducible first|refine cU ?_|refine wU ?_);clear k m;intro w m k)
 have OB:=aA m.zO;have hbx:=gB (w:=w) (b:=wo.heap.size);clear d0 k m;obtain⟨bs,hbs⟩:∃ b,b=wo.heap.size:=⟨_,rfl⟩;rw[<-hbs] at hbx |-;have HBX:=aA hbx;clear hbx hbs;obtain⟨wl,rfl⟩:∃ wl:World,wl=w:=⟨_,rfl⟩;go_loopw [5,13] (fun va vi wr=>∃ (i:Nat) (la:Int),i<=l.length/\vi=.int .i64 i/\va=.int .i64 la/\A8 s.sc la (l.drop i)=res/\Oy [] wl wr) (fun va vi _=>l.length-(intOf vi).toNat)
 case atStart=>exact⟨0,0,Nat.zero_le _,rfl,rfl,HE.out,aR _ _⟩
 case round =>
  obtain⟨i,la,hi,rfl,rfl,hv,ho⟩:=hrel;have O1:=aA ho;have OO:=aA (OB.out.aB ho);have hb:=ho.got HBX.out (by simp);clear ho HE;by_cases hlt:i<l.length
  ·have hlt2:decide ((i:Int)<(l.length:Int))=true:=eY (by omega)
   have hlt3:(i:Int)<(l.length:Int):=by omega
   have ei:wrap .i64 ((i:Int)+1)=((i+1:Nat):Int):=by unfold maxLen at hlen;rw[IntKind.wrap_i64];omega
   obtain⟨bk,off,rfl,-⟩:=HA.out.VQ (aR [] wo) hlt;rw[List.drop_eq_getElem_cons hlt] at hv;obtain⟨x,hx⟩:∃ x,l[i]=x:=⟨_,rfl⟩
   have HX:=aA (show ∀ w',Oy [] wr w'->bk<w'.heap.size/\w'.cell? ⟨bk,off+i*9,none⟩=some (.int .i64 x.at_)/\w'.cell? ⟨bk,off+i*9+1,none⟩=some (.int .i64 x.nd)/\w'.cell? ⟨bk,off+i*9+2,none⟩=some (.int .i64 x.raw)/\w'.cell? ⟨bk,off+i*9+3,none⟩=some (.int .i64 x.clk)/\w'.cell? ⟨bk,off+i*9+4,none⟩=some (.int .i64 x.stp)/\w'.cell? ⟨bk,off+i*9+5,none⟩=some (.int .i64 x.lo)/\w'.cell? ⟨bk,off+i*9+6,none⟩=some (.int .i64 x.hi)/\w'.cell? ⟨bk,off+i*9+7,none⟩=some (.int .i64 x.kd)/\w'.cell? ⟨bk,off+i*9+8,none⟩=some (.int .i64 x.vl) from fun w' o=>by
    obtain⟨b',o',e,q⟩:=HA.out.VQ (OO.out.aB o) hlt
    cases e
    rw[hx] at q;exact q)
   rw[hx] at hv;clear hx;obtain⟨x0,x1,x2,x3,x4,x5,x6,x7,x8⟩:=x;unfold A8 vOk at hv;dsimp only at hv HX;have HC1:=aA (fun w' (o:Oy [] wr w')=>HIC.out x1 w' (OO.out.aB o));have HC2:=aA (fun w'=>uJ x2 w');have HC3:=aA (fun w'=>uJ x3 w');have HC4:=aA (fun w'=>dD ⟨x5,x6⟩ w');unfold dV at HC4;dsimp only at HC4;rw[show s.sc.un=s.un from rfl] at hv;generalize icF s.sc x1=b1 at HC1 hv;generalize EC x2=b2 at HC2 hv;generalize EC x3=b3 at HC3 hv;generalize bU ⟨x5,x6⟩=b6 at HC4 hv;obtain⟨n4,d4⟩:∃ n,decide (x0<la)=n:=⟨_,rfl⟩;obtain⟨n5,d5⟩:∃ n,decide (s.un<x0)=n:=⟨_,rfl⟩;rw[d4,d5] at hv
   cases b1
   rotate_left 1
   focus
    cases n4
    focus
     cases n5
     focus
      cases b2
      rotate_left 1
      focus
       cases b3
       rotate_left 1
       focus
        cases b6
        rotate_left 1
     rotate_left 4
    rotate_left 5
   all_goals
    simp only[Bool.true_and,Bool.false_and,Bool.not_true,Bool.not_false,Bool.and_false,Bool.and_true] at hv
    (try simp only[if_true,if_false,Bool.false_eq_true] at HC4)
    have HV:=aA hv;clear hv;have m:=iX hb;have k:=m.zK;have c:=HX.out wr (aR _ _);clear hb;go_wp2_with (first|((with_reducible first|refine cM (HC1.out _ gO) ?_|refine cM (HC2.out _) ?_|refine cM (HC3.out _) ?_|refine cM (HC4.out _) ?_|refine cU ?_|refine wU ?_);clear k m c;intro w m k;have c:=HX.out w m.zO)|((with_reducible refine lE (fun w o g k K hK=>⟨rfl,?_⟩));simp[results,Tryz.results29,go_sem];refine hK _ ?_;exact⟨by rw[<-HV.out],OO.out.aB o⟩)|(go_roundw;(case rel=>exact⟨i+1,x0,by omega,by go_num,rfl,HV.out,O1.out.trans gO (by simp)⟩);(case measure=>first|(simp[intOf];done)|(simp[intOf];omega))))
  ·obtain rfl:i=l.length:=by omega
   have hlt2:decide ((l.length:Int)<(l.length:Int))=false:=by simp
   rw[List.drop_length] at hv;unfold A8 at hv;subst hv;have m:=iX hb;have k:=m.zK;clear hb;go_wp2_with (first|((with_reducible first|refine cU ?_|refine wU ?_);clear k m;intro w m k)|((with_reducible refine lE (fun w o g k K hK=>⟨rfl,?_⟩));simp[results,Tryz.results29,go_sem];refine hK _ ?_;exact⟨rfl,OO.out.aB o⟩))
end
section
open Go.Sort
end
end Go.Proofs.YtppjhbjmfkiejaaGreat
