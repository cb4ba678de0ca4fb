/- Ol Om On Oo Op -/
import Derived.Test.YtppjhbjmfkiejaaGreatFOi
import Derived.HandedShaped
import Derived.Lib.SmallJoins
import Derived.Maps.AppendAt
namespace Go.Proofs.YtppjhbjmfkiejaaGreat
set_option linter.all false
open List (all_eq_true getD_eq_getElem?_getD getElem?_eq_getElem length_append map_cons map_nil)
set_option maxRecDepth 100000
set_option maxHeartbeats 8000000
open Go.RowKit
section
open Go.Sort
structure ScW.Ok0 (w:World) (s:ScW):Prop where
 nd:VRow ndC 7 w s.pn s.nd.length s.cn s.nd
 lk:VRow lkC 9 w s.pl s.lk.length s.cl s.lk
 ft:VRow ftC 5 w s.pf s.ft.length s.cf s.ft
 ns:∀ x∈s.nd,VRow sgC 2 w x.ps x.n.sg.length x.cs x.n.sg/\VRow itC 1 w x.pv x.n.sv.length x.cv x.n.sv
 ls:∀ x∈s.lk,VRow chC 3 w x.p x.l.ch.length x.c x.l.ch
theorem ScW.Ok0.ok {w:World} {s:ScW} (h:s.Ok0 w) (hf:FewP s):s.Ok w:=by
 obtain⟨a1,a2,a3,a4,a5⟩:=hf;refine⟨h.nd,h.lk,h.ft,fun x hx=>?_,fun x hx=>?_,by omega,by omega,by omega⟩
 ·obtain⟨i,hi,rfl⟩:=List.getElem_of_mem hx
  have:=a4 i hi;rw[getD_eq_getElem?_getD,getElem?_eq_getElem hi] at this;exact⟨(h.ns _ hx).1,(h.ns _ hx).2,Nat.le_trans this.1 (by decide),Nat.le_trans this.2 (by decide)⟩
 ·obtain⟨i,hi,rfl⟩:=List.getElem_of_mem hx
  have:=a5 i hi;rw[getD_eq_getElem?_getD,getElem?_eq_getElem hi] at this;exact⟨h.ls _ hx,Nat.le_trans this (by decide)⟩
end
section
open Go.ChangeShapes Go.WideShapes Go.ChangeAt Go.Deep
theorem take1 {cs:List Value} {j:Nat} {v:Value} (h:cs[j]? = some v):(cs.drop j).take 1=[v]:=by
 obtain⟨hj,rfl⟩:=List.getElem?_eq_some_iff.1 h;rw[List.drop_eq_getElem_cons hj];rfl
def intField (P:Program) (f:Field):Bool:=match P.underlying f.type with
 | some (.int .i64)=>true
 | _=>false
theorem intField_of {P:Program} {f:Field} (h:intField P f=true):P.underlying f.type=some (.int .i64):=by
 unfold intField at h;split at h
 ·assumption
 ·cases h
section
variable {H:Type} {enc:TypeId × Value->H} {P:Program} {w:World}
theorem ints_of_struct {e:TypeId} {fs:Array Field} {fuel:Nat} {cs:List Value} {x:DataW H × List MemPlace} (hs:P.underlying e=some (.struct fs)) (hone:oneCellFields P fs=true) (hint:fs.all (intField P)=true) (hC:P.cellsOf e=fs.size)
  (h:DataW.trod enc P w 0 (fun _=>true) true fuel e cs=some x):∃ zs:List Int,zs.length=fs.size/\cs=zs.map (Value.int .i64)/\∀ z∈zs,(Lit.int .i64 z).wf=true:=by
 obtain⟨ys,n',_,hy,hlen,hyl,hf⟩:=DataW.trod_struct hs h;rw[hC] at hlen
 have key:∀ j (hj:j<cs.length),∃ z,cs[j]=Value.int .i64 z/\(Lit.int .i64 z).wf=true:=by
  intro j hj;have hjf:j<fs.size:=by omega
  have hfj:fs[j]? = some fs[j]:=Array.getElem?_eq_getElem hjf;obtain⟨ho,hk⟩:=hone_of hone j fs[j] hfj;have h1:=hf j fs[j] hfj;rw[ho,hk,take1 (getElem?_eq_getElem hj)] at h1;have hyj:ys[j]? = some (ys[j]'(by omega)):=getElem?_eq_getElem (by omega);rw[hyj] at h1;have hu:=intField_of (Array.all_eq_true.1 hint j hjf);obtain⟨z,hz,_,hw⟩:=DataW.trod_int hu h1;simp only[List.cons.injEq,and_true] at hz;exact⟨z,hz,hw⟩
 refine⟨cs.map fun v=>match v with | .int _ z=>z | _=>0,by simp[hlen],?_,?_⟩
 ·rw[List.map_map]
  apply List.ext_getElem (by simp)
  intro j h1 h2;obtain⟨z,hz,_⟩:=key j h1;simp[hz]
 ·intro z hz
  obtain⟨v,hv,rfl⟩:=List.mem_map.1 hz;obtain⟨j,hj,rfl⟩:=List.mem_iff_getElem.1 hv;obtain⟨z,hz,hw⟩:=key j hj;simpa [hz] using hw
end
section
variable {H:Type} {enc:TypeId × Value->H} {w:World}
theorem fld_at {P:Program} {e:TypeId} {fs:Array Field} {fuel:Nat} {cs:List Value} {x:DataW H × List MemPlace} (hs:P.underlying e=some (.struct fs)) (h:DataW.trod enc P w 0 (fun _=>true) true fuel e cs=some x)
  (j:Nat) (T:TypeId) (o k:Nat) (hf:(fs[j]?).map (fun f=>(f.type,f.offset,P.cellsOf f.type))=some (T,o,k)):∃ n y,DataW.trod enc P w 0 (fun _=>true) true n T ((cs.drop o).take k)=some y:=by
 obtain⟨ys,n,_,_,_,hyl,hfl⟩:=DataW.trod_struct hs h
 cases hj:fs[j]? with
 | none=>rw[hj] at hf;cases hf
 | some f =>
  rw[hj] at hf;simp only[Option.map_some,Option.some.injEq,Prod.mk.injEq] at hf;obtain⟨rfl,rfl,rfl⟩:=hf;have hlt:j<fs.size:=(Array.getElem?_eq_some_iff.1 hj).1;exact⟨n,ys[j]'(by omega),by rw[hfl j f hj];exact getElem?_eq_getElem _⟩
theorem cs_len {P:Program} {e:TypeId} {fs:Array Field} {fuel:Nat} {cs:List Value} {x:DataW H × List MemPlace} (hs:P.underlying e=some (.struct fs)) (h:DataW.trod enc P w 0 (fun _=>true) true fuel e cs=some x):cs.length=P.cellsOf e:=by
 obtain⟨ys,n,_,_,hl,_⟩:=DataW.trod_struct hs h;exact hl
theorem list7 {α:Type} {l:List α} (h:l.length=7):∃ a b c d e f g,l=[a,b,c,d,e,f,g]:=by
 match l,h with
 | [a,b,c,d,e,f,g],_=>exact⟨a,b,c,d,e,f,g,rfl⟩
theorem list9 {α:Type} {l:List α} (h:l.length=9):∃ a b c d e f g i j,l=[a,b,c,d,e,f,g,i,j]:=by
 match l,h with
 | [a,b,c,d,e,f,g,i,j],_=>exact⟨a,b,c,d,e,f,g,i,j,rfl⟩
theorem list5 {α:Type} {l:List α} (h:l.length=5):∃ a b c d e,l=[a,b,c,d,e]:=by
 match l,h with
 | [a,b,c,d,e],_=>exact⟨a,b,c,d,e,rfl⟩
theorem int_at {P:Program} {e:TypeId} {k:IntKind} {fuel:Nat} {v:Value} {x:DataW H × List MemPlace} (he:P.underlying e=some (.int k)) (h:DataW.trod enc P w 0 (fun _=>true) true fuel e [v]=some x):∃ z,v=.int k z/\(Lit.int k z).wf=true:=by
 obtain⟨z,h1,_,h2⟩:=DataW.trod_int he h;exact⟨z,by simpa using h1,h2⟩
theorem bool_at {P:Program} {e:TypeId} {fuel:Nat} {v:Value} {x:DataW H × List MemPlace} (he:P.underlying e=some .bool) (h:DataW.trod enc P w 0 (fun _=>true) true fuel e [v]=some x):∃ z,v=.bool z:=by
 obtain⟨z,h1,_⟩:=DataW.trod_bool he h;exact⟨z,by simpa using h1⟩
theorem slice_at {P:Program} {t e:TypeId} {fuel:Nat} {v:Value} {y:DataW H × List MemPlace} (ht:P.underlying t=some (.slice e)) (hf:DataW.trod enc P w 0 (fun _=>true) true fuel t [v]=some y) :
  ∃ a l c,v=.slice a l c/\DataW.Trod enc P w 0 (fun _=>true) true t (.slice a l c) y.1 y.2:=by
 obtain⟨a,l,c,h⟩:=Joins.slice_form ht hf;have hv:v=.slice a l c:=by simpa using h
 subst hv;exact⟨a,l,c,rfl,fuel,by simpa [Value.cells] using hf⟩
theorem arr2_at {fuel:Nat} {a b:Value} {x:DataW H × List MemPlace} (h:DataW.trod enc Tryz.prog w 0 (fun _=>true) true fuel 76 [a,b]=some x):∃ c d,a=.int .i64 c/\b=.int .i64 d:=by
 obtain⟨ys,m,_,_,_,hl,hf⟩:=DataW.trod_array Tryz.underlying76 h;have hc:Tryz.prog.cellsOf 3=1:=by kernel_rfl
 have f0:=hf 0 (by decide);have f1:=hf 1 (by decide);rw[hc] at f0 f1;have g0:ys[0]? = some (ys[0]'(by omega)):=getElem?_eq_getElem (by omega);have g1:ys[1]? = some (ys[1]'(by omega)):=getElem?_eq_getElem (by omega);obtain⟨c,hc0,_⟩:=int_at Tryz.underlying3 (f0.trans g0);obtain⟨d,hd0,_⟩:=int_at Tryz.underlying3 (f1.trans g1);exact⟨c,d,hc0,hd0⟩
theorem vrow_sgs {p:Option Addr} {n cap:Nat} {d:DataW H} {ps:List MemPlace} (h:DataW.Trod enc Tryz.prog w 0 (fun _=>true) true 49 (.slice p n cap) d ps):∃ l:List Sg,VRow sgC 2 w p n cap l:=by
 obtain⟨l,hl,_⟩:=vrow_of sgC 2 (fun _=>rfl) (by decide) (fun _=>True) Tryz.underlying49 (by kernel_rfl) h (fun fuel cs x hx=>by
  obtain⟨zs,h1,rfl,_⟩:=ints_of_struct Tryz.underlying48 (by kernel_rfl) (by kernel_rfl) (by kernel_rfl) hx;match zs,h1 with
  | [a,b],_=>exact⟨⟨a,b⟩,rfl,trivial⟩)
 exact⟨l,hl⟩
theorem vrow_chs {p:Option Addr} {n cap:Nat} {d:DataW H} {ps:List MemPlace} (h:DataW.Trod enc Tryz.prog w 0 (fun _=>true) true 77 (.slice p n cap) d ps):∃ l:List Ch,VRow chC 3 w p n cap l:=by
 obtain⟨l,hl,_⟩:=vrow_of chC 3 (fun _=>rfl) (by decide) (fun _=>True) Tryz.underlying77 (by kernel_rfl) h (fun fuel cs x hx=>by
  obtain⟨zs,h1,rfl,_⟩:=ints_of_struct Tryz.underlying237 (by kernel_rfl) (by kernel_rfl) (by kernel_rfl) hx;match zs,h1 with
  | [a,b,c],_=>exact⟨⟨a,b,c⟩,rfl,trivial⟩)
 exact⟨l,hl⟩
theorem vrow_fts {p:Option Addr} {n cap:Nat} {d:DataW H} {ps:List MemPlace} (h:DataW.Trod enc Tryz.prog w 0 (fun _=>true) true 24 (.slice p n cap) d ps):∃ l:List Ft,VRow ftC 5 w p n cap l:=by
 obtain⟨l,hl,_⟩:=vrow_of ftC 5 (fun _=>rfl) (by decide) (fun _=>True) Tryz.underlying24 (by kernel_rfl) h (fun fuel cs x hx=>by
  obtain⟨zs,h1,rfl,_⟩:=ints_of_struct Tryz.underlying44 (by kernel_rfl) (by kernel_rfl) (by kernel_rfl) hx;match zs,h1 with
  | [a,b,c,d,e],_=>exact⟨⟨a,b,c,d,e⟩,rfl,trivial⟩)
 exact⟨l,hl⟩
theorem vrow_its {p:Option Addr} {n cap:Nat} {d:DataW H} {ps:List MemPlace} (h:DataW.Trod enc Tryz.prog w 0 (fun _=>true) true 52 (.slice p n cap) d ps):∃ l:List Int,VRow itC 1 w p n cap l:=by
 obtain⟨l,hl,_⟩:=vrow_ints (k:=.i64) Tryz.underlying52 Tryz.underlying3 (by kernel_rfl) h;exact⟨l,hl⟩
theorem vrow_nds {p:Option Addr} {n cap:Nat} {d:DataW H} {ps:List MemPlace} (h:DataW.Trod enc Tryz.prog w 0 (fun _=>true) true 22 (.slice p n cap) d ps) :
  ∃ l:List NdW,VRow ndC 7 w p n cap l/\∀ x∈l,VRow sgC 2 w x.ps x.n.sg.length x.cs x.n.sg/\VRow itC 1 w x.pv x.n.sv.length x.cv x.n.sv:=
 vrow_of ndC 7 ndC_len (by decide) _ Tryz.underlying22 (by kernel_rfl) h (fun fuel cs x hx=>by
  have hs:=Tryz.underlying54;obtain⟨v0,v1,v2,v3,v4,v5,v6,rfl⟩:=list7 ((cs_len hs hx).trans (by kernel_rfl));obtain⟨n1,y1,g1⟩:=fld_at hs hx 0 51 0 2 (by kernel_rfl);obtain⟨n2,y2,g2⟩:=fld_at hs hx 1 3 2 1 (by kernel_rfl);obtain⟨n3,y3,g3⟩:=fld_at hs hx 2 4 3 1 (by kernel_rfl);obtain⟨n4,y4,g4⟩:=fld_at hs hx 3 3 4 1 (by kernel_rfl);obtain⟨n5,y5,g5⟩:=fld_at hs hx 4 3 5 1 (by kernel_rfl);obtain⟨n6,y6,g6⟩:=fld_at hs hx 5 52 6 1 (by kernel_rfl);have ho:=Tryz.underlying51;obtain⟨n7,y7,g7⟩:=fld_at ho g1 0 3 0 1 (by kernel_rfl);obtain⟨n8,y8,g8⟩:=fld_at ho g1 1 49 1 1 (by kernel_rfl);obtain⟨ph,rfl,_⟩:=int_at Tryz.underlying3 g7;obtain⟨ps,ns,cs',rfl,t1⟩:=slice_at Tryz.underlying49 g8;obtain⟨tol,rfl,_⟩:=int_at Tryz.underlying3 g2;obtain⟨rf,rfl⟩:=bool_at Tryz.underlying4 g3;obtain⟨er,rfl,_⟩:=int_at Tryz.underlying3 g4;obtain⟨st,rfl,_⟩:=int_at Tryz.underlying3 g5;obtain⟨pv,nv,cv,rfl,t2⟩:=slice_at Tryz.underlying52 g6;obtain⟨sg,r1⟩:=vrow_sgs t1;obtain⟨sv,r2⟩:=vrow_its t2;have e1:=r1.len;have e2:=r2.len;subst e1;subst e2;exact⟨⟨⟨ph,sg,tol,rf,er,st,sv⟩,ps,cs',pv,cv⟩,rfl,r1,r2⟩)
theorem vrow_lks {p:Option Addr} {n cap:Nat} {d:DataW H} {ps:List MemPlace} (h:DataW.Trod enc Tryz.prog w 0 (fun _=>true) true 23 (.slice p n cap) d ps) :
  ∃ l:List LkW,VRow lkC 9 w p n cap l/\∀ x∈l,VRow chC 3 w x.p x.l.ch.length x.c x.l.ch:=
 vrow_of lkC 9 lkC_len (by decide) _ Tryz.underlying23 (by kernel_rfl) h (fun fuel cs x hx=>by
  have hs:=Tryz.underlying81;obtain⟨v0,v1,v2,v3,v4,v5,v6,v7,v8,rfl⟩:=list9 ((cs_len hs hx).trans (by kernel_rfl));obtain⟨n0,y0,g0⟩:=fld_at hs hx 0 3 0 1 (by kernel_rfl);obtain⟨n1,y1,g1⟩:=fld_at hs hx 1 3 1 1 (by kernel_rfl);obtain⟨n2,y2,g2⟩:=fld_at hs hx 2 79 2 7 (by kernel_rfl);have ho:=Tryz.underlying79;obtain⟨n3,y3,g3⟩:=fld_at ho g2 0 76 0 2 (by kernel_rfl);obtain⟨n4,y4,g4⟩:=fld_at ho g2 1 76 2 2 (by kernel_rfl);obtain⟨n5,y5,g5⟩:=fld_at ho g2 2 3 4 1 (by kernel_rfl);obtain⟨n6,y6,g6⟩:=fld_at ho g2 3 25 5 1 (by kernel_rfl);obtain⟨n7,y7,g7⟩:=fld_at ho g2 4 77 6 1 (by kernel_rfl);obtain⟨A,rfl,_⟩:=int_at Tryz.underlying3 g0;obtain⟨B,rfl,_⟩:=int_at Tryz.underlying3 g1;obtain⟨d0,d1,q0,q1⟩:=arr2_at g3;obtain⟨e0,e1,q2,q3⟩:=arr2_at g4;subst q0;subst q1;subst q2;subst q3;obtain⟨lo,rfl,_⟩:=int_at Tryz.underlying3 g5;obtain⟨sd,rfl,_⟩:=int_at Tryz.underlying25 g6;obtain⟨pc,nc,cc,rfl,t1⟩:=slice_at Tryz.underlying77 g7;obtain⟨ch,r1⟩:=vrow_chs t1;have e2:=r1.len;subst e2;exact⟨⟨⟨A,B,d0,d1,e0,e1,lo,sd,ch⟩,pc,cc⟩,rfl,r1⟩)
theorem scene_of {r:Reach} {b0:Nat} {v:Value} {d:DataW H} {p:List MemPlace} (hv:Value.okWide Tryz.prog w r b0 27 v) (h:DataW.Trod enc Tryz.prog w 0 (fun _=>true) true 27 v d p):∃ s:ScW,v=scnV s/\s.Ok0 w:=by
 have hs:=Tryz.underlying27;obtain⟨cs,rfl,hsz⟩:=okWide_struct hs hv;obtain⟨fuel,hx⟩:=h;have hx:DataW.trod enc Tryz.prog w 0 (fun _=>true) true fuel 27 cs.toList=some (d,p):=hx;obtain⟨v0,v1,v2,v3,v4,hcs⟩:=list5 ((cs_len hs hx).trans (by kernel_rfl));rw[hcs] at hx;obtain⟨n0,y0,g0⟩:=fld_at hs hx 0 22 0 1 (by kernel_rfl);obtain⟨n1,y1,g1⟩:=fld_at hs hx 1 23 1 1 (by kernel_rfl);obtain⟨n2,y2,g2⟩:=fld_at hs hx 2 24 2 1 (by kernel_rfl);obtain⟨n3,y3,g3⟩:=fld_at hs hx 3 3 3 1 (by kernel_rfl);obtain⟨n4,y4,g4⟩:=fld_at hs hx 4 25 4 1 (by kernel_rfl);obtain⟨pn,ln,cn,rfl,t0⟩:=slice_at Tryz.underlying22 g0;obtain⟨pl,ll,cl,rfl,t1⟩:=slice_at Tryz.underlying23 g1;obtain⟨pf,lf,cf,rfl,t2⟩:=slice_at Tryz.underlying24 g2;obtain⟨un,rfl,_⟩:=int_at Tryz.underlying3 g3;obtain⟨sd,rfl,_⟩:=int_at Tryz.underlying25 g4;obtain⟨nd,r0,q0⟩:=vrow_nds t0;obtain⟨lk,r1,q1⟩:=vrow_lks t1;obtain⟨ft,r2⟩:=vrow_fts t2;have e0:=r0.len;have e1:=r1.len;have e2:=r2.len;subst e0;subst e1;subst e2;refine⟨⟨nd,lk,ft,un,sd,pn,cn,pl,cl,pf,cf⟩,?_,⟨r0,r1,r2,q0,q1⟩⟩;unfold scnV;congr 1
 exact Array.ext' hcs
theorem open_conf {r:Reach} {b0:Nat} {v:Value} {d:DataW H} {ps:List MemPlace} (hval:Value.okWide Tryz.prog w r b0 31 v) (h:DataW.Trod enc Tryz.prog w 0 (fun _=>true) true 31 v d ps):∃ c:Cf,v=cfV c:=by
 obtain⟨cs,rfl,hsz⟩:=okWide_struct Tryz.underlying31 hval;obtain⟨m,hx⟩:=h;have hs:=Tryz.underlying31;obtain⟨l⟩:=cs;have hl:l.length=12:=(cs_len hs hx).trans (by kernel_rfl);match l,hl,hx with
 | [v0,v1,v2,v3,v4,v5,v6,v7,v8,v9,v10,v11],_,hx =>
  simp only[Value.cells] at hx;obtain⟨n0,y0,g0⟩:=fld_at hs hx 0 3 0 1 (by kernel_rfl);obtain⟨n1,y1,g1⟩:=fld_at hs hx 1 3 1 1 (by kernel_rfl);obtain⟨n2,y2,g2⟩:=fld_at hs hx 2 3 2 1 (by kernel_rfl);obtain⟨n3,y3,g3⟩:=fld_at hs hx 3 3 3 1 (by kernel_rfl);obtain⟨n4,y4,g4⟩:=fld_at hs hx 4 29 4 5 (by kernel_rfl);obtain⟨n5,y5,g5⟩:=fld_at hs hx 5 3 9 1 (by kernel_rfl);obtain⟨n6,y6,g6⟩:=fld_at hs hx 6 3 10 1 (by kernel_rfl);obtain⟨n7,y7,g7⟩:=fld_at hs hx 7 3 11 1 (by kernel_rfl);obtain⟨z0,rfl,_⟩:=int_at Tryz.underlying3 g0;obtain⟨z1,rfl,_⟩:=int_at Tryz.underlying3 g1;obtain⟨z2,rfl,_⟩:=int_at Tryz.underlying3 g2;obtain⟨z3,rfl,_⟩:=int_at Tryz.underlying3 g3;obtain⟨z5,rfl,_⟩:=int_at Tryz.underlying3 g5;obtain⟨z6,rfl,_⟩:=int_at Tryz.underlying3 g6;obtain⟨z7,rfl,_⟩:=int_at Tryz.underlying3 g7;have hv:=Tryz.underlying29;obtain⟨_,_,i0⟩:=fld_at hv g4 0 3 0 1 (by kernel_rfl);obtain⟨s0,rfl,_⟩:=int_at Tryz.underlying3 i0;obtain⟨_,_,i1⟩:=fld_at hv g4 1 3 1 1 (by kernel_rfl);obtain⟨s1,rfl,_⟩:=int_at Tryz.underlying3 i1;obtain⟨_,_,i2⟩:=fld_at hv g4 2 3 2 1 (by kernel_rfl);obtain⟨s2,rfl,_⟩:=int_at Tryz.underlying3 i2;obtain⟨_,_,i3⟩:=fld_at hv g4 3 3 3 1 (by kernel_rfl);obtain⟨s3,rfl,_⟩:=int_at Tryz.underlying3 i3;obtain⟨_,_,i4⟩:=fld_at hv g4 4 3 4 1 (by kernel_rfl);obtain⟨s4,rfl,_⟩:=int_at Tryz.underlying3 i4;exact⟨⟨z0,z1,z2,z3,⟨s0,s1,s2,s3,s4⟩,z5,z6,z7⟩,rfl⟩
end
theorem rnds_of {W:World} (h:W.ShapedOpen Tryz.prog):∃ R,Rnds W R:=by
 obtain⟨zero,hz⟩:∃ zero,((begin Tryz.prog (fun _ _=>0) default).world.heap[(2:Nat)]?).bind Obj.row? = some (zero,301)/\zero.size=6:=⟨#[.int .u64 0,.int .u64 0,.int .u64 0,.int .u64 0,.int .u64 0,.int .u64 0],by kernel_rfl,rfl⟩;obtain⟨cs,hh,hs,hr⟩:=h.1 2 zero 301 (by decide +kernel) hz.1;obtain⟨ts,hts,_,hall⟩:=hr (by kernel_rfl);have hts2:Tryz.prog.cellTypes Tryz.prog.depth 301=some [232,25,232,25,232,25]:=by kernel_rfl
 rw[hts2] at hts
 cases hts
 rw[hz.2] at hs
 have key:∀ i (hi:i<6),∃ n,cs[i]? = some (.int .u64 n)/\0<=n:=fun i hi=>by
  have h1:i<cs.size:=by omega
  obtain⟨u,hu,hok⟩:=hall i cs[i] (by simp[h1])
  have hu2:Tryz.prog.underlying u=some (.int .u64):=by
   have e:i=0∨i=1∨i=2∨i=3∨i=4∨i=5:=by omega
   have e2:u=232∨u=25:=by
    rcases e with rfl|rfl|rfl|rfl|rfl|rfl
    ·exact .inl (by simpa using hu.symm)
    ·exact .inr (by simpa using hu.symm)
    ·exact .inl (by simpa using hu.symm)
    ·exact .inr (by simpa using hu.symm)
    ·exact .inl (by simpa using hu.symm)
    ·exact .inr (by simpa using hu.symm)
   rcases e2 with rfl|rfl
   ·exact Tryz.underlying232
   ·exact Tryz.underlying25
  unfold Cell.ok at hok;rw[hu2] at hok;rw[Array.getElem?_eq_getElem h1]
  cases hv:cs[i]<;>rw[hv] at hok<;>simp at hok
  case int k' n =>
   obtain⟨rfl,hn⟩:=hok;refine⟨n,rfl,?_⟩;have:=hn.1;simpa [IntKind.min,IntKind.signed] using this
 obtain⟨s0,e0,z0⟩:=key 0 (by omega);obtain⟨m0,e1,_⟩:=key 1 (by omega);obtain⟨s1,e2,z1⟩:=key 2 (by omega);obtain⟨m1,e3,_⟩:=key 3 (by omega);obtain⟨s2,e4,z2⟩:=key 4 (by omega);obtain⟨m2,e5,_⟩:=key 5 (by omega);refine⟨[(s0,m0),(s1,m1),(s2,m2)],s0,m0,s1,m1,s2,m2,rfl,z0,z1,z2,?_⟩;rw[hh];congr 2
 apply Array.ext (by simpa using hs)
 intro i h1 h2;have e:i=0∨i=1∨i=2∨i=3∨i=4∨i=5:=by omega
 rw[Array.getElem?_eq_some_iff] at e0 e1 e2 e3 e4 e5;rcases e with rfl|rfl|rfl|rfl|rfl|rfl
 ·exact e0.2
 ·exact e1.2
 ·exact e2.2
 ·exact e3.2
 ·exact e4.2
 ·exact e5.2
end
section
open Go.Sort
theorem mem_ownL {b:Nat}:∀ {L:List Blk},b∈ownL L->∃ p∈L,p.own=true/\p.b=b
 | q::L,h=>by
  unfold ownL at h;split at h
  ·rename_i ho
   rcases List.mem_cons.1 h with rfl|h
   ·exact⟨q,List.mem_cons_self ..,ho,rfl⟩
   ·obtain⟨p,h1,h2,h3⟩:=mem_ownL h
    exact⟨p,List.mem_cons_of_mem _ h1,h2,h3⟩
  ·obtain⟨p,h1,h2,h3⟩:=mem_ownL h
   exact⟨p,List.mem_cons_of_mem _ h1,h2,h3⟩
theorem Mm.back {w0 w:World} {S:List Nat} {L:List Blk} {w':World} (h:Mm w0 S w L) (o:Only (ownL L) w w'):Only S w0 w':=h.out.only.trans o fun x hx=>by
 obtain⟨p,h1,h2,rfl⟩:=mem_ownL hx;exact h.out.own p h1 h2
theorem sgC_len (s:Sg):(sgC s).length=2:=rfl
theorem ftC_len (s:Ft):(ftC s).length=5:=rfl
theorem ftC_one (s:Ft):∀ u∈ftC s,u.oneCell'=true:=by simp[ftC,Value.oneCell']
theorem ndC_one (x:NdW):∀ u∈ndC x,u.oneCell'=true:=by simp[ndC,Value.oneCell']
theorem UpdX.one {c c1 c2:Cl} {raw e1 e2:Int} {a1 a2:Ac} (h1:UpdX c raw a1 e1 c1) (h2:UpdX c raw a2 e2 c2):a1=a2/\e1=e2/\c1=c2:=by
 rcases h1 with ⟨q1,q2,q3,q4⟩|⟨q1,h1⟩<;>rcases h2 with ⟨r1,r2,r3,r4⟩|⟨r1,h2⟩
 ·exact⟨q2.trans r2.symm,q3.trans r3.symm,q4.trans r4.symm⟩
 ·exact absurd r1 q1
 ·exact absurd q1 r1
 ·rcases h1 with ⟨p1,p2,p3,p4⟩|⟨i1,v1,g1,s1,t1⟩<;>rcases h2 with ⟨u1,u2,u3,u4⟩|⟨i2,v2,g2,s2,t2⟩
  ·exact⟨p3.trans u3.symm,p2.trans u2.symm,p4.trans u4.symm⟩
  ·exact absurd (p2.trans (selE_zero g2 s2)) p1
  ·exact absurd (u2.trans (selE_zero g1 s1)) u1
  ·have hi:i1=i2:=by rw[s1] at s2;exact (Prod.mk.inj (Option.some.inj s2)).1
   subst hi;have:=t1.trans t2.symm;simp only[Prod.mk.injEq] at this;exact⟨this.1,this.2.1,this.2.2⟩
theorem StpR.one {R:List (Int × Int)} {s:Scn} {a b c:Sim} (h:StpR R s a b) (k:StpR R s a c):b=c:=by
 obtain⟨x,r,h1,h2⟩:=h;obtain⟨y,r',k1,k2⟩:=k;rw[h1] at k1;obtain⟨rfl,rfl⟩:=List.cons.inj k1;revert h2 k2
 cases a.ev.getD x.x.toNat (.poll ⟨0,0,0,0⟩) with
 | poll p=>exact fun h k=>h.trans k.symm
 | req p h=>exact fun h k=>h.trans k.symm
 | dep p h v=>exact fun h k=>h.trans k.symm
 | rep p h v =>
  unfold RepR;dsimp only;split
  ·exact fun h=>h.elim
  ·rintro⟨a1,e1,c1,u1,rfl⟩ ⟨a2,e2,c2,u2,rfl⟩
   obtain⟨rfl,rfl,rfl⟩:=UpdX.one u1 u2;rfl
theorem RunR.one {R:List (Int × Int)} {s:Scn} {a b c:Sim} (h:RunR R s a b) (k:RunR R s a c):b=c:=by
 induction h with
 | done h =>
  cases k with
  | done _=>rfl
  | step k _=>obtain⟨x,r,k1,_⟩:=k;rw[h] at k1;cases k1
 | step h _ ih =>
  cases k with
  | done k=>obtain⟨x,r,k1,_⟩:=h;rw[k] at k1;cases k1
  | step k1 k2=>exact ih (h.one k1 ▸ k2)
def ftS (s:Scn) (l:List Ft):Scn:=⟨s.nd,s.lk,l,s.un,s.sd⟩
theorem act_off {n t:Int} {f:Ft} (h:f.t=f.f):actF n t f=false:=by
 unfold actF;rw[h];by_cases h1:f.f<=t
 ·have h2:¬ t<f.f:=by omega
  simp[h2]
 ·simp[h1]
theorem app_off (l:List Ft) {x:Ft} (h:x.t=x.f) (n t:Int) (p:Np) (v:Iv):appF (l ++ [x]) n t p v=appF l n t p v:=by
 unfold appF;rw[List.filter_append,List.filter_cons_of_neg (by rw[act_off h];simp),List.filter_nil,List.append_nil]
theorem req_off (s:Scn) {x:Ft} (h:x.t=x.f) (st:Sim) (t:Int) (p:Trp) (q:Np):reqF (ftS s (s.ft ++ [x])) st t p q=reqF s st t p q:=by
 unfold reqF;rw[show (ftS s (s.ft ++ [x])).ft=s.ft ++ [x] from rfl,show ansF (ftS s (s.ft ++ [x])) st p.s q t=ansF s st p.s q t from rfl];dsimp only;rw[app_off _ h];rfl
theorem stp_off {R:List (Int × Int)} {s:Scn} {x:Ft} (h:x.t=x.f) {a b:Sim} (k:StpR R s a b):StpR R (ftS s (s.ft ++ [x])) a b:=by
 obtain⟨y,r,h1,h2⟩:=k;refine⟨y,r,h1,?_⟩;revert h2
 cases a.ev.getD y.x.toNat (.poll ⟨0,0,0,0⟩) with
 | poll p=>exact fun h=>h
 | req p q=>exact fun h2=>h2.trans (req_off s h _ _ _ _).symm
 | dep p q v=>exact fun h=>h
 | rep p q v=>exact fun h=>h
theorem run_off {R:List (Int × Int)} {s:Scn} {x:Ft} (h:x.t=x.f) {a b:Sim} (k:RunR R s a b):RunR R (ftS s (s.ft ++ [x])) a b:=by
 induction k with
 | done h=>exact .done h
 | step h1 _ ih=>exact .step (stp_off h h1) ih
theorem svK_off (s:Scn) (l:List Ft) (i:Nat) (n:Nd) (st:Sim):∀ k,svK (ftS s l) i n st k=svK s i n st k
 | 0=>rfl
 | k+1=>by unfold svK;rw[svK_off s l i n st k];rfl
theorem ndK_off (s:Scn) (l:List Ft) (c:Cf):∀ i,ndK (ftS s l) c i=ndK s c i
 | 0=>rfl
 |i+1=>by
  unfold ndK ndS;rw[ndK_off s l c i,svK_off];rfl
theorem new_off (s:Scn) (l:List Ft) (c:Cf):newF (ftS s l) c=newF s c:=ndK_off s l c s.nd.length
theorem polls_off (s:Scn) (l:List Ft):pollsF (ftS s l)=pollsF s:=by
 have key:∀ i,pollS (ftS s l) i=pollS s i:=fun i=>by
  induction i with
  | zero=>rfl
  | succ i ih=>unfold pollS;rw[ih];rfl
 exact key _
theorem chk_off {s:Scn} (h:chkS s=0) {l:List Ft} (hl:fcE l=0) (hn:∀ f∈l,f.n<s.nd.length):chkS (ftS s l)=0:=by
 obtain⟨h1,h⟩:=if_ne h (by decide);obtain⟨h2,h⟩:=if_ne h (by decide);obtain⟨h3,h⟩:=if_self h;obtain⟨h4,h⟩:=if_self h;obtain⟨h5,h⟩:=if_eq h (by decide);obtain⟨h6,h⟩:=if_self h;obtain⟨_,h⟩:=if_eq h (by decide);obtain⟨h8,_⟩:=if_eq h (by decide);unfold chkS ftS;dsimp only;rw[if_neg h1,if_neg h2,if_pos h3,if_pos h4,if_pos h5,if_pos hl,if_pos (by simpa [all_eq_true] using hn),if_pos h8]
theorem more_fault {s:Scn} {c:Cf} (h:nchkF s c=0) {x:Ft} (hx:fcE (s.ft ++ [x])=0) (hn:x.n<s.nd.length):nchkF (ftS s (s.ft ++ [x])) c=0:=by
 obtain⟨h1,h2⟩:=nchk_ok h;unfold nchkF at h ⊢;rw[if_pos h1,if_pos h2] at h
 have hall:∀ f∈s.ft,f.n<s.nd.length:=by
  have hc:=h1;obtain⟨_,hc⟩:=if_ne hc (by decide);obtain⟨_,hc⟩:=if_ne hc (by decide);obtain⟨_,hc⟩:=if_self hc;obtain⟨_,hc⟩:=if_self hc;obtain⟨_,hc⟩:=if_eq hc (by decide);obtain⟨_,hc⟩:=if_self hc;obtain⟨h7,_⟩:=if_eq hc (by decide);simpa [all_eq_true] using h7
 rw[if_pos (chk_off h1 hx fun f hf=>?_),if_pos h2,polls_off]
 ·exact h
 ·rcases List.mem_append.1 hf with q|q
  ·exact hall f q
  ·rw[List.mem_singleton.1 q];exact hn
def zN (b:Bool):Nd:=⟨0,[⟨0,0⟩],0,b,0,0,[]⟩
def ndX (s:Scn) (b:Bool):Scn:=⟨s.nd ++ [zN b],s.lk,s.ft,s.un,s.sd⟩
def exS (st:Sim):Sim:=⟨st.cl ++ [none],st.q,st.tm,st.pu,st.ev,st.sent,st.mks,st.lgs⟩
theorem node_x {s:Scn} {b:Bool} {i:Nat} (hi:i<s.nd.length):nodeF (ndX s b) i=nodeF s i:=by
 unfold nodeF ndX;rw[Int.toNat_natCast,getD_eq_getElem?_getD,getD_eq_getElem?_getD,List.getElem?_append_left hi]
theorem raw_x {s:Scn} {b:Bool} {i:Nat} (hi:i<s.nd.length) (t:Int):rawF (ndX s b) i t=rawF s i t:=by
 unfold rawF;rw[node_x hi]
theorem sch_x (s:Scn) (b:Bool) (st:Sim) (t:Int) (e:EvS):schF (ndX s b) (exS st) t e=exS (schF s st t e):=by
 unfold schF exS ndX;dsimp only;split
 ·rfl
 ·split<;>rfl
theorem clOf_x {st:Sim} {i:Nat} (hi:i<st.cl.length):clOf (exS st) i=clOf st i:=by
 unfold clOf exS;dsimp only;rw[Int.toNat_natCast,getD_eq_getElem?_getD,getD_eq_getElem?_getD,List.getElem?_append_left hi]
theorem set_x {st:Sim} {i:Nat} (hi:i<st.cl.length) (c:Cl):setCl (exS st) i c=exS (setCl st i c):=by
 unfold setCl exS;dsimp only;rw[Int.toNat_natCast,List.set_append_left _ _ hi]
theorem note_x {s:Scn} {b:Bool} {e:EvS} (he:TrOk s e.trp) (st:Sim) (t:Int):noteF (ndX s b) (exS st) e t=exS (noteF s st e t):=by
 obtain⟨⟨i,j,h1,h2,hi,hj,-⟩,-⟩:=he
 cases e with
 | poll p =>
  have h1:p.c=i:=h1;unfold noteF;dsimp only;rw[h1,node_x hi,raw_x hi];rfl
 | req p q =>
  have h2:p.s=j:=h2;unfold noteF;dsimp only;rw[h2,node_x hj,raw_x hj];rfl
 | dep p q v =>
  have h2:p.s=j:=h2;unfold noteF;dsimp only;rw[h2,node_x hj,raw_x hj];rfl
 | rep p q v =>
  have h1:p.c=i:=h1;unfold noteF;dsimp only;rw[h1,node_x hi,raw_x hi];rfl
theorem ans_x {s:Scn} {b:Bool} {st:Sim} {j:Nat} (hj:j<s.nd.length) (hc:st.cl.length=s.nd.length) (h:Np) (t:Int):ansF (ndX s b) (exS st) j h t=ansF s st j h t:=by
 unfold ansF;rw[node_x hj,clOf_x (by omega),raw_x hj]
theorem stp_x {R:List (Int × Int)} {s:Scn} {b:Bool} {a d:Sim} (hI:SimI s a) (k:StpR R s a d):StpR R (ndX s b) (exS a) (exS d):=by
 obtain⟨y,r,hq,hx⟩:=k;obtain⟨k0,-,he,-⟩:=hI.pop hq;refine⟨y,r,hq,?_⟩;unfold evD at he;have hev:(exS a).ev=a.ev:=rfl;rw[hev];revert hx
 generalize a.ev.getD y.x.toNat (.poll ⟨0,0,0,0⟩)=e at he;have htr:=arv_ev he;obtain⟨⟨i,j,h1,h2,hi,hj,-⟩,-⟩:=htr;have htr:=arv_ev he;have hcn:(⟨a.cl,r,y.t,a.pu,a.ev,a.sent,a.mks,a.lgs⟩:Sim).cl.length=s.nd.length:=k0.cln;rw[show (⟨(exS a).cl,r,y.t,(exS a).pu,a.ev,(exS a).sent,(exS a).mks,(exS a).lgs⟩:Sim)=exS ⟨a.cl,r,y.t,a.pu,a.ev,a.sent,a.mks,a.lgs⟩ from rfl];clear hev k0;generalize (⟨a.cl,r,y.t,a.pu,a.ev,a.sent,a.mks,a.lgs⟩:Sim)=st at hcn ⊢
 cases e with
 | poll p =>
  have h1:p.c=i:=h1;intro hx;obtain rfl:d=pollF R s st y.t p:=hx;show exS (pollF R s st y.t p)=pollF R (ndX s b) (exS st) y.t p
  unfold pollF;rw[h1,sch_x];have hc1:(schF s st (y.t+16000000000) (.poll ⟨i,p.i,p.s,0⟩)).cl.length=s.nd.length:=by rw[(sch_same ..).1];exact hcn
  generalize schF s st (y.t+16000000000) (.poll ⟨i,p.i,p.s,0⟩)=st1 at hc1;dsimp only;rw[clOf_x (st:=st1) (i:=i) (by omega)]
  cases clOf st1 i with
  | none=>rfl
  | some c =>
   dsimp only;rw[raw_x hi,show (ndX s b).sd=s.sd from rfl,show (exS st1).sent=st1.sent from rfl];generalize clSend c p.i (rawF s i y.t) (max (mixF R s.sd st1.sent) 1)=w;rw[set_x (by omega)];have hc2:(setCl st1 i w.2).cl.length=s.nd.length:=by unfold setCl;dsimp only;rw[List.length_set];exact hc1
   generalize setCl st1 i w.2=st2 at hc2;split
   ·rw[show (exS st2).sent=st2.sent from rfl,show arvF R (ndX s b) i p.s y.t st2.sent=arvF R s i p.s y.t st2.sent from rfl]
    have hp:TrOk s (EvS.poll ⟨i,p.i,p.s,st2.sent⟩).trp->True:=fun _=>trivial;rw[show ({ exS st2 with sent:=st2.sent+1 }:Sim)=exS { st2 with sent:=st2.sent+1 } from rfl]
    have note:∀ z:Sim,noteF (ndX s b) (exS z) (.poll ⟨i,p.i,p.s,st2.sent⟩) y.t=exS (noteF s z (.poll ⟨i,p.i,p.s,st2.sent⟩) y.t):=fun z=>by
     unfold noteF;dsimp only;rw[node_x hi,raw_x hi];rfl
    cases arvF R s i p.s y.t st2.sent with
    | none=>exact (note _).symm
    | some u =>
     dsimp only;rw[sch_x];exact (note _).symm
   ·rfl
 | req p q =>
  have h2:p.s=j:=h2;intro hx;obtain rfl:d=reqF s st y.t p q:=hx;show exS (reqF s st y.t p q)=reqF (ndX s b) (exS st) y.t p q
  unfold reqF;rw[h2,ans_x hj hcn,show (ndX s b).ft=s.ft from rfl];dsimp only;rw[<-note_x (b:=b) htr];congr 1
  split
  ·split
   ·rfl
   ·exact (sch_x ..).symm
  ·rfl
 | dep p q v =>
  intro hx;obtain rfl:d=depF R s st y.t p q v:=hx;show exS (depF R s st y.t p q v)=depF R (ndX s b) (exS st) y.t p q v
  unfold depF;rw[<-note_x (b:=b) htr,show arvF R (ndX s b) p.s p.c y.t p.n=arvF R s p.s p.c y.t p.n from rfl];congr 1
  cases arvF R s p.s p.c y.t p.n with
  | none=>rfl
  | some u=>exact (sch_x ..).symm
 | rep p q v =>
  have h1:p.c=i:=h1;intro hx;have hx:RepR s st y.t p q v d:=hx;show RepR (ndX s b) (exS st) y.t p q v (exS d)
  unfold RepR at hx ⊢;rw[h1] at hx ⊢;rw[clOf_x (by omega),raw_x hi]
  cases hcl:clOf st i with
  | none=>rw[hcl] at hx;exact hx
  | some c =>
   rw[hcl] at hx;obtain⟨ac,er,c2,hu,rfl⟩:=hx;refine⟨ac,er,c2,hu,?_⟩;rw[<-note_x (b:=b) htr];congr 1
   split
   ·rw[set_x (by omega)];rfl
   ·rw[set_x (by omega)]
theorem run_x {R:List (Int × Int)} {s:Scn} {b:Bool} (hn:s.nd.length<=1000) {a d:Sim} (k:RunR R s a d):SimI s a->ClF s a->tot s a<=900000000->RunR R (ndX s b) (exS a) (exS d):=by
 induction k with
 | done h=>exact fun _ _ _=>.done h
 | step h1 _ ih =>
  intro hI hF ht;obtain⟨k1,k2,k3⟩:=h1.inv hI hF hn (by omega);exact .step (stp_x hI h1) (ih k1 k2 (by omega))
theorem svK_x (s:Scn) (b:Bool) (i:Nat) (n:Nd) (st:Sim):∀ k,svK (ndX s b) i n (exS st) k=exS (svK s i n st k)
 | 0=>rfl
 | k+1=>by unfold svK;rw[svK_x s b i n st k,sch_x]
theorem ndK_cln (s:Scn) (c:Cf):∀ i,(ndK s c i).cl.length=s.nd.length
 | 0=>by unfold ndK;simp
 |i+1=>by
  unfold ndK ndS;split
  ·rw[svK_same];unfold setCl;dsimp only;rw[List.length_set];exact ndK_cln s c i
  ·exact ndK_cln s c i
theorem ndK_x (s:Scn) (b:Bool) (c:Cf):∀ i,i<=s.nd.length->ndK (ndX s b) c i=exS (ndK s c i)
 |0,_=>by
  unfold ndK exS ndX;dsimp only;rw[length_append,List.length_singleton,List.replicate_succ']
 |i+1,hi=>by
  unfold ndK ndS;rw[ndK_x s b c i (by omega),node_x (by omega),raw_x (by omega)];split
  ·rw[set_x (by rw[ndK_cln];omega),svK_x]
  ·rfl
theorem node_z (s:Scn) (b:Bool):nodeF (ndX s b) s.nd.length=zN b:=by
 unfold nodeF ndX;rw[Int.toNat_natCast,getD_eq_getElem?_getD,List.getElem?_append_right (Nat.le_refl _)];simp
theorem new_x (s:Scn) (b:Bool) (c:Cf):newF (ndX s b) c=exS (newF s c):=by
 unfold newF;rw[show (ndX s b).nd.length=s.nd.length+1 by unfold ndX;simp];show ndS (ndX s b) c s.nd.length (ndK (ndX s b) c s.nd.length)=_
 unfold ndS;rw[node_z,if_neg (by unfold isCl zN;simp),ndK_x s b c _ (Nat.le_refl _)]
theorem polls_x (s:Scn) (b:Bool):pollsF (ndX s b)=pollsF s:=by
 have key:∀ i,i<=s.nd.length->pollS (ndX s b) i=pollS s i:=fun i=>by
  induction i with
  | zero=>exact fun _=>rfl
  | succ i ih=>intro hi;unfold pollS;rw[ih (by omega),node_x (by omega)];rfl
 unfold pollsF;rw[show (ndX s b).nd.length=s.nd.length+1 by unfold ndX;simp];show pollS (ndX s b) s.nd.length+_=_
 rw[node_z,if_neg (by unfold isCl zN;simp),key _ (Nat.le_refl _)];omega
theorem inR_up {v n:Int} (h:inR v 0 (n-1)=true):inR v 0 (n+1-1)=true:=by
 have:=inR_t.1 h;exact inR_t.2 (by omega)
theorem sv_x {l:List Int} {i n:Int} {k:Nat} (h:svE l i n k=0):svE l i (n+1) k=0:=by
 unfold svE at h ⊢;obtain⟨h1,h⟩:=if_eq h (by decide);rw[if_pos (inR_up h1)];exact h
theorem nd_x {n:Nd} {i m:Int} (h:ndE n i m=0):ndE n i (m+1)=0:=by
 unfold ndE at h ⊢;obtain⟨h1,h⟩:=if_self h;obtain⟨h2,h⟩:=if_eq h (by decide);obtain⟨h3,h⟩:=if_ne h (by decide);obtain⟨h4,h⟩:=if_eq h (by decide);obtain⟨h5,h⟩:=if_ne h (by decide);obtain⟨h6,h⟩:=if_ne h (by decide);obtain⟨h7,h⟩:=if_self h;have h7':fe (svE n.sv i (m+1)) n.sv.length 0=0:=fe_ok.2 fun j h0 hj=>sv_x (fe_ok.1 h7 j h0 hj);rw[if_pos h1,if_pos h2,if_neg h3,if_pos h4,if_neg h5,if_neg h6,if_pos h7'];exact h
theorem le_x {l:List Lk} {m:Int} {i:Nat} (h:leE l m i=0):leE l (m+1) i=0:=by
 unfold leE at h ⊢;obtain⟨h1,h⟩:=if_eq h (by decide);rw[if_pos ⟨inR_up h1.1,inR_up h1.2⟩];exact h
theorem zN_ok (b:Bool) (i m:Int):ndE (zN b) i m=0:=by
 cases b<;>kernel_rfl
theorem chk_x {s:Scn} (h:chkS s=0) (hn:s.nd.length<24) (b:Bool):chkS (ndX s b)=0:=by
 obtain⟨h1,h⟩:=if_ne h (by decide);obtain⟨h2,h⟩:=if_ne h (by decide);obtain⟨h3,h⟩:=if_self h;obtain⟨h4,h⟩:=if_self h;obtain⟨h5,h⟩:=if_eq h (by decide);obtain⟨h6,h⟩:=if_self h;obtain⟨h7,h⟩:=if_eq h (by decide);obtain⟨h8,_⟩:=if_eq h (by decide);have hl:(ndX s b).nd.length=s.nd.length+1:=by unfold ndX;simp
 have hget:∀ i,(ndX s b).nd.getD i nd0=if i<s.nd.length then s.nd.getD i nd0 else if i=s.nd.length then zN b else nd0:=fun i=>by
  unfold ndX;dsimp only;rw[getD_eq_getElem?_getD,getD_eq_getElem?_getD];by_cases hi:i<s.nd.length
  ·rw[if_pos hi,List.getElem?_append_left hi]
  ·rw[if_neg hi,List.getElem?_append_right (by omega)]
   by_cases he:i=s.nd.length
   ·rw[if_pos he,he];simp
   ·rw[if_neg he,List.getElem?_eq_none (by simp;omega)];rfl
 have c1:¬ (ndX s b).nd.length=0:=by omega
 have c2:¬ (24<(ndX s b).nd.length∨64<(ndX s b).lk.length):=by
  rw[hl,show (ndX s b).lk=s.lk from rfl];omega
 have c3:fe (fun i=>ndE ((ndX s b).nd.getD i nd0) i (ndX s b).nd.length) (ndX s b).nd.length 0=0:=fe_ok.2 fun j _ hj=>by
  rw[hget,hl];rw[hl] at hj;split
  ·rename_i hjl
   have q:=fe_ok.1 h3 j (Nat.zero_le _) (by omega);rw[show ((s.nd.length+1:Nat):Int)=(s.nd.length:Int)+1 from Int.natCast_succ _];exact nd_x q
  ·rw[if_pos (by omega)]
   exact zN_ok ..
 have c4:fe (leE (ndX s b).lk (ndX s b).nd.length) (ndX s b).lk.length 0=0:=fe_ok.2 fun j h0 hj=>by
  rw[hl,show ((s.nd.length+1:Nat):Int)=(s.nd.length:Int)+1 from Int.natCast_succ _];exact le_x (fe_ok.1 h4 j h0 hj)
 have c5:fe (fun i=>jnE (ndX s b).lk i ((ndX s b).nd.getD i nd0)) (ndX s b).nd.length 0=0:=fe_ok.2 fun j _ hj=>by
  rw[hget];rw[hl] at hj;split
  ·exact fe_ok.1 h5 j (Nat.zero_le _) (by omega)
  ·rw[if_pos (by omega)]
   rfl
 have c7:(ndX s b).ft.all (fun f=>decide (f.n<(ndX s b).nd.length))=true:=by
  rw[all_eq_true] at h7 ⊢;intro f hf;have:=of_decide_eq_true (h7 f hf);rw[hl];exact decide_eq_true (by omega)
 unfold chkS;rw[if_neg c1,if_neg c2,if_pos c3,if_pos c4,if_pos c5,if_pos (show fcE (ndX s b).ft=0 from h6),if_pos c7,if_pos (show inR (ndX s b).un 1 1125899906842624=true from h8)]
theorem more_node {s:Scn} {c:Cf} (h:nchkF s c=0) (hn:s.nd.length<24) (b:Bool):nchkF (ndX s b) c=0:=by
 obtain⟨h1,h2⟩:=nchk_ok h;unfold nchkF at h ⊢;rw[if_pos h1,if_pos h2] at h;rw[if_pos (chk_x h1 hn b),if_pos h2,polls_x];exact h
theorem marks_off {R:List (Int × Int)} {s:Scn} {c:Cf} {x:Ft} (h:x.t=x.f) {st st':Sim} (k:RunR R s (newF s c) st) (k':RunR R (ftS s (s.ft ++ [x])) (newF (ftS s (s.ft ++ [x])) c) st'):st'.mks=st.mks:=by
 rw[new_off] at k';rw[(run_off h k).one k']
theorem marks_x {R:List (Int × Int)} {s:Scn} (hp:ScP s) {c:Cf} (hc:ccheck (cf1 c)=0) {b:Bool} {st st':Sim} (k:RunR R s (newF s c) st) (k':RunR R (ndX s b) (newF (ndX s b) c) st'):st'.mks=st.mks:=by
 rw[new_x] at k';obtain⟨k1,k2,k3⟩:=new_inv hp hc;have hl:=hp.nl;rw[<-(run_x (by omega) k k1 k2 k3).one k'];rfl
end
section
open Go.Sort
theorem pSameMarks {w:World} {l:List Mrk} {p q:Option Addr} {cp cq:Nat} (ha:VRow mkC 9 w p l.length cp l) (hb:VRow mkC 9 w q l.length cq l) :
  Calls Tryz.prog 12 #[.slice p l.length cp,.slice q l.length cq] w fun e w'=>e=.returned (.bool true)/\Only [] w w':=by
 have HA:=Lib.hid ha;have HB:=Lib.hid hb;have hlen:l.length<=maxLen:=Nat.le_trans ha.le ha.cm;clear ha hb;obtain⟨wo,hwo⟩:∃ wo:World,wo=w:=⟨_,rfl⟩;subst hwo;have m:=mm0 wo [];have k:=m.out.k;go_enter Tryz.func12,Tryz.ntmps12
 go_wp2_with ((with_reducible first|refine cU ?_|refine wU ?_);clear k m;intro w m k)
 clear k m;go_loopw [13] (fun vi wr=>∃ i:Nat,i<=l.length/\vi=.int .i64 i/\Only [] wo wr) (fun vi _=>l.length-(intOf vi).toNat)
 case atStart=>exact⟨0,Nat.zero_le _,rfl,Only.refl _ _⟩
 case round =>
  obtain⟨i,hi,rfl,ho⟩:=hrel;have OO:=Lib.hid ho;clear ho;by_cases hlt:i<l.length
  ·have hlt2:(i:Int)<(l.length:Int):=by omega
   have ei:IntKind.i64.wrap ((i:Int)+1)=((i+1:Nat):Int):=by unfold maxLen at hlen;rw[IntKind.wrap_i64];omega
   obtain⟨bk,off,rfl,-⟩:=HA.out.mrk (Only.refl [] wo) hlt;obtain⟨bj,ofj,rfl,-⟩:=HB.out.mrk (Only.refl [] wo) hlt;obtain⟨x,hx⟩:∃ x,l[i]=x:=⟨_,rfl⟩
   have HX:=Lib.hid (show ∀ w',Only [] wr w'->bk<w'.heap.size/\w'.cell? ⟨bk,off+i*9,none⟩=some (.int .i64 x.at_)/\w'.cell? ⟨bk,off+i*9+1,none⟩=some (.int .i64 x.nd)/\w'.cell? ⟨bk,off+i*9+2,none⟩=some (.int .i64 x.raw)/\w'.cell? ⟨bk,off+i*9+3,none⟩=some (.int .i64 x.clk)/\w'.cell? ⟨bk,off+i*9+4,none⟩=some (.int .i64 x.stp)/\w'.cell? ⟨bk,off+i*9+5,none⟩=some (.int .i64 x.lo)/\w'.cell? ⟨bk,off+i*9+6,none⟩=some (.int .i64 x.hi)/\w'.cell? ⟨bk,off+i*9+7,none⟩=some (.int .i64 x.kd)/\w'.cell? ⟨bk,off+i*9+8,none⟩=some (.int .i64 x.vl) from fun w' o=>by
    obtain⟨b',o',e,z⟩:=HA.out.mrk (OO.out.nil_trans o) hlt
    cases e
    rw[hx] at z;exact z)
   have HY:=Lib.hid (show ∀ w',Only [] wr w'->bj<w'.heap.size/\w'.cell? ⟨bj,ofj+i*9,none⟩=some (.int .i64 x.at_)/\w'.cell? ⟨bj,ofj+i*9+1,none⟩=some (.int .i64 x.nd)/\w'.cell? ⟨bj,ofj+i*9+2,none⟩=some (.int .i64 x.raw)/\w'.cell? ⟨bj,ofj+i*9+3,none⟩=some (.int .i64 x.clk)/\w'.cell? ⟨bj,ofj+i*9+4,none⟩=some (.int .i64 x.stp)/\w'.cell? ⟨bj,ofj+i*9+5,none⟩=some (.int .i64 x.lo)/\w'.cell? ⟨bj,ofj+i*9+6,none⟩=some (.int .i64 x.hi)/\w'.cell? ⟨bj,ofj+i*9+7,none⟩=some (.int .i64 x.kd)/\w'.cell? ⟨bj,ofj+i*9+8,none⟩=some (.int .i64 x.vl) from fun w' o=>by
    obtain⟨b',o',e,z⟩:=HB.out.mrk (OO.out.nil_trans o) hlt
    cases e
    rw[hx] at z;exact z)
   clear hx;obtain⟨x0,x1,x2,x3,x4,x5,x6,x7,x8⟩:=x;dsimp only at HX HY;have m:=mm0 wr [];have k:=m.out.k;have c:=HX.out wr (Only.refl _ _);have c2:=HY.out wr (Only.refl _ _);go_wp2_with (first|((with_reducible refine rG (id:=6) [0,1,2,3,4,5,6,7,8] [] (by kernel_rfl) (by kernel_rfl) ?_);simp only[pick,map_cons,map_nil,List.getD_cons_succ,List.getD_cons_zero];(repeat' (first|go_big_quiet_step (fail)|(refine wpQuiet_step (fun K hK=>?_);go_simp;(first|(refine hK _ ?_;clear hK K)|(split<;>(refine hK _ ?_;clear hK K))))));all_goals (refine wpQuiet_nil ?_;clear k m c c2;intro w m k;have c:=HX.out w m.out.only;have c2:=HY.out w m.out.only))|((with_reducible first|refine cU ?_|refine wU ?_);clear k m c c2;intro w m k;have c:=HX.out w m.out.only;have c2:=HY.out w m.out.only)|(go_roundw;(case rel=>exact⟨i+1,by omega,by go_num,OO.out.trans gO (by simp)⟩);(case measure=>first|(simp[intOf];done)|(simp[intOf];omega))))
  ·obtain rfl:i=l.length:=by omega
   have hlt2:decide ((l.length:Int)<(l.length:Int))=false:=by simp
   have m:=mm0 wr [];have k:=m.out.k;go_wp2_with (first|((with_reducible first|refine cU ?_|refine wU ?_);clear k m;intro w m k)|((with_reducible refine lE (fun w o g k K hK=>⟨rfl,?_⟩));simp[results,Tryz.results12,go_sem];refine hK _ ?_;exact⟨rfl,OO.out.nil_trans o⟩))
end
section
open Go.Sort
theorem run_append_nothing {P:Program} (w:World) (t ty e:TypeId) (i:TypeInfo) (ht:P.underlying t=some (.slice e)) (hi:P.info? e=some i) (p:Option Addr) (n cap:Nat) (h:n<=cap) :
  (Builtin.append_ #[t,t] ty #[.slice p n cap,.slice none 0 0]).run P w=.ok (.slice p n cap) w:=by
 cases p with
 | none=>simp[Builtin.append_,run_underlying ht,sizeOf,typeInfo,hi,Builtin.lenOf,h,Builtin.firstCells]
 | some a=>simp[Builtin.append_,run_underlying ht,sizeOf,typeInfo,hi,Builtin.lenOf,h,Builtin.firstCells,storeCells]
theorem wpList_append_list {α:Type} {P:Program} {w:World} {ops:Array Oper} {rest:List Oper} {o:Oper} {a:Act} {Q:Exit->Act->World->Prop} (hgd:o.guard=none) (sO xO:Operand) (t:TypeId)
  (ho:o.op=.call { callee:=.builtin .append,args:=#[sO,xO],argTypes:=#[t,t] })
  (e:TypeId) (z:Value) (size bytes B:Nat) (ht:P.underlying t=some (.slice e)) (hi:(P.info? e).map (fun i=>(i.zero,i.size,i.bytes))=some (some z,size,bytes)) (hzs:z.cells.size=size) (hsz:0<size)
  (enc:α->List Value) (hs:∀ x,(enc x).length=size) (h1c:∀ x,∀ u∈enc x,u.oneCell'=true) (l:List α) (v:Value) (hv:a.eval sO=v) (hown:Own enc e size B w v l)
  (p:Option Addr) (n cap:Nat) (l2:List α) (hx:a.eval xO=.slice p n cap) (hrow:VRow enc size w p n cap l2)
  (hlen:l.length+l2.length<=maxLen) (hby:(l.length+l2.length)*bytes<=140737488355328) (hB:B<=w.heap.size)
  (hK:∀ v' w',Own enc e size B w' v' (l ++ l2)->(∀ k∈v'.ownBlock.toList,k∈v.ownBlock.toList∨w.heap.size<=k)->Only v.ownBlock.toList w w'->wpList P ops Q rest (a.put o.dst v') w'):wpList P ops Q (o::rest) a w:=by
 cases hi':P.info? e with
 | none=>rw[hi'] at hi;simp at hi
 | some i =>
  rw[hi'] at hi;simp only[Option.map_some,Option.some.injEq,Prod.mk.injEq] at hi;obtain⟨z1,z2,z3⟩:=hi;have hn:=hrow.len;subst hn
  cases p with
  | none =>
   have hc:=hrow.nil rfl;have hle:=hrow.le;have h0:l2=[]:=List.eq_nil_of_length_eq_zero (by omega);subst h0;subst hc
   obtain⟨q,m,c,rfl,hmc⟩:∃ q m c,v=.slice q m c/\m<=c:=by
    rcases hown with ⟨rfl,rfl⟩|⟨g,cap,rfl,_,h3⟩
    ·exact⟨none,0,0,rfl,Nat.le_refl _⟩
    ·obtain⟨_,_,_,h5,_⟩:=h3
     exact⟨_,_,_,rfl,h5⟩
   have hr:=run_append_nothing (P:=P) w t o.type e i ht hi' q m c hmc;refine wpList_plain hgd fun K hK'=>?_;unfold Oper.wp execOp;simp only[List.length_nil] at hx;simp only[ho,resolve,invoke,builtin,Sem.run_bind,Sem.run_pure,Result.andThen_ok,List.map_toArray,map_cons,map_nil,hv,hx,hr];exact hK' _ _ (hK _ _ (by rw[List.append_nil];exact hown) (fun k hk=>.inl hk) (Only.refl _ _))
  | some ad =>
   have hblk:w.ownsRow B e size v l.length (l.flatMap enc):=by
    rcases hown with ⟨rfl,rfl⟩|⟨g,cap,rfl,h2,h3⟩
    ·exact⟨by simp,.inl ⟨rfl,rfl⟩⟩
    ·exact h3.owns hs h2
   have hnews:∀ j u,(l2.flatMap enc)[j]? = some u->w.cell? (ad.add j)=some u:=by
    intro j u hj;have hjl:=(List.getElem?_eq_some_iff.1 hj).1;rw[flat_length enc size hs] at hjl;have hq:j / size<l2.length:=Nat.div_lt_of_lt_mul (by rw[Nat.mul_comm];exact hjl);have hd:j=j / size*size+j % size:=by rw[Nat.mul_comm];exact (Nat.div_add_mod j size).symm
    obtain⟨b,off,hp,-,hcell⟩:=hrow.cell (j / size) l2[j / size] (getElem?_eq_getElem hq)
    cases hp
    have h1:=flat_get enc size hs l2 (j / size) (j % size) l2[j / size] (getElem?_eq_getElem hq) (Nat.mod_lt _ hsz);rw[<-hd,hj] at h1;have h2:=hcell (j % size) u h1.symm;rw[<-hd] at h2;rw[addr_add];exact h2
   obtain⟨v',w',hr,k1,k2,-,k3⟩:=run_append_own_at (P:=P) w B t o.type e i z size bytes ht hi' z1 z2 z3 hzs hsz v l.length (l.flatMap enc) hblk ad l2.length cap (l2.flatMap enc) (by rw[flat_length enc size hs]) hnews (fun u hu=>by
    obtain⟨x,-,hxu⟩:=List.mem_flatMap.1 hu;exact h1c x u hxu) hlen hby hB
   have hown':Own enc e size B w' v' (l ++ l2):=by
    rw[<-List.flatMap_append] at k1;rcases k1.2 with ⟨rfl,h0⟩|⟨g,c,cur,rfl,hbg,hg,hnc,hcm,hcs,htk⟩
    ·refine .inl ⟨rfl,List.eq_nil_of_length_eq_zero (by rw[length_append];exact h0)⟩
    ·exact .inr ⟨g,c,by rw[length_append],hbg,cur,hg,hcs,by rw[length_append];exact hnc,hcm,by rw[length_append];exact htk⟩
   refine wpList_plain hgd fun K hK'=>?_;unfold Oper.wp execOp;simp only[ho,resolve,invoke,builtin,Sem.run_bind,Sem.run_pure,Result.andThen_ok,List.map_toArray,map_cons,map_nil,hv,hx,hr];exact hK' _ _ (hK _ _ hown' (fun k hk=>by rcases k3 with q|q<;>rw[q] at hk;exact .inl hk;exact .inr (by simp at hk;omega)) ((Only.refl _ w).grown k2 (by intro k hk;left;rw[hk];simp)))
end
end Go.Proofs.YtppjhbjmfkiejaaGreat
