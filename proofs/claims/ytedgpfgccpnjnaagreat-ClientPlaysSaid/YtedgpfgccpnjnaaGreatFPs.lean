/- Given structs: their cells; the acts; the configuration; the four instants. No condition. -/
import Derived.Test.YtedgpfgccpnjnaaGreatFV1
import Derived.Test.YtedgpfgccpnjnaaGreatFPn
namespace Go.Proofs.YtedgpfgccpnjnaaGreat
set_option maxRecDepth 100000
open Go.ChangeShapes Go.WideShapes Go.ChangeAt Go.RowKit Go.Deep
theorem take1 {cs:List Value} {j:Nat} {v:Value} (h:cs[j]? = some v):(cs.drop j).take 1=[v]:=by
 obtain⟨hj,rfl⟩:=List.getElem?_eq_some_iff.1 h;rw[List.drop_eq_getElem_cons hj];rfl
def intField (P:Program) (f:Field):Bool:=match P.underlying f.type with
 | some (.int .i64)=>true
 | _=>false
section
variable {H:Type} {enc:TypeId × Value→H} {P:Program} {w:World}
end
def kindF (P:Program) (f:Field):Option IntKind:=match P.underlying f.type with
 | some (.int k)=>some k
 | _=>none
theorem kindF_of {P:Program} {f:Field} {k:IntKind} (h:kindF P f=some k):P.underlying f.type=some (.int k):=by
 unfold kindF at h;split at h
 ·rename_i h2;rw[h2,Option.some.inj h]
 ·cases h
def zOf:Value→Int
 | .int _ z=>z
 | _=>0
section
variable {H:Type} {enc:TypeId × Value→H} {P:Program} {w:World}
theorem kinds_of_struct {e:TypeId} {fs:Array Field} {fuel:Nat} {cs:List Value} {x:DataW H × List MemPlace} (ks:List IntKind) (hs:P.underlying e=some (.struct fs)) (hone:oneCellFields P fs=true) (hks:fs.toList.map (kindF P)=ks.map some) (hC:P.cellsOf e=fs.size)
  (h:DataW.trod enc P w 0 (fun _=>true) true fuel e cs=some x):cs.length=ks.length∧∀ j (hj:j<cs.length) (hk:j<ks.length),∃ z,cs[j]=Value.int ks[j] z∧(Lit.int ks[j] z).wf=true:=by
 obtain⟨ys,n',_,hy,hlen,hyl,hf⟩:=DataW.trod_struct hs h;rw[hC] at hlen;have hkl:fs.size=ks.length:=by have:=congrArg List.length hks;simpa using this
 refine⟨by omega,fun j hj hk=>?_⟩;have hjf:j<fs.size:=by omega
 have hfj:fs[j]? = some fs[j]:=Array.getElem?_eq_getElem hjf;obtain⟨ho,hkk⟩:=hone_of hone j fs[j] hfj;have h1:=hf j fs[j] hfj;rw[ho,hkk,take1 (List.getElem?_eq_getElem hj)] at h1;have hyj:ys[j]? = some (ys[j]'(by omega)):=List.getElem?_eq_getElem (by omega);rw[hyj] at h1
 have hkj:kindF P fs[j]=some ks[j]:=by
  have h2:(fs.toList.map (kindF P))[j]? = (ks.map some)[j]? :=by rw[hks]
  simpa [hjf,hk] using h2
 obtain⟨z,hz,_,hw⟩:=DataW.trod_int (kindF_of hkj) h1;simp only[List.cons.injEq,and_true] at hz;exact⟨z,hz,hw⟩
end
section
variable {H:Type} {enc:TypeId × Value→H} {w:World}
theorem fld_at {P:Program} {e:TypeId} {fs:Array Field} {fuel:Nat} {cs:List Value} {x:DataW H × List MemPlace} (hs:P.underlying e=some (.struct fs)) (h:DataW.trod enc P w 0 (fun _=>true) true fuel e cs=some x)
  (j:Nat) (T:TypeId) (o k:Nat) (hf:(fs[j]?).map (fun f=>(f.type,f.offset,P.cellsOf f.type))=some (T,o,k)):∃ n y,DataW.trod enc P w 0 (fun _=>true) true n T ((cs.drop o).take k)=some y:=by
 obtain⟨ys,n,_,_,_,hyl,hfl⟩:=DataW.trod_struct hs h
 cases hj:fs[j]? with
 | none=>rw[hj] at hf;cases hf
 | some f =>
  rw[hj] at hf;simp only[Option.map_some,Option.some.injEq,Prod.mk.injEq] at hf;obtain⟨rfl,rfl,rfl⟩:=hf;have hlt:j<fs.size:=(Array.getElem?_eq_some_iff.1 hj).1;exact⟨n,ys[j]'(by omega),by rw[hfl j f hj];exact List.getElem?_eq_getElem _⟩
theorem cs_len {P:Program} {e:TypeId} {fs:Array Field} {fuel:Nat} {cs:List Value} {x:DataW H × List MemPlace} (hs:P.underlying e=some (.struct fs)) (h:DataW.trod enc P w 0 (fun _=>true) true fuel e cs=some x):cs.length=P.cellsOf e:=by
 obtain⟨ys,n,_,_,hl,_⟩:=DataW.trod_struct hs h;exact hl
theorem int_at {P:Program} {e:TypeId} {k:IntKind} {fuel:Nat} {v:Value} {x:DataW H × List MemPlace} (he:P.underlying e=some (.int k)) (h:DataW.trod enc P w 0 (fun _=>true) true fuel e [v]=some x):∃ z,v=.int k z∧(Lit.int k z).wf=true:=by
 obtain⟨z,h1,_,h2⟩:=DataW.trod_int he h;exact⟨z,by simpa using h1,h2⟩
theorem bool_at {P:Program} {e:TypeId} {fuel:Nat} {v:Value} {x:DataW H × List MemPlace} (he:P.underlying e=some .bool) (h:DataW.trod enc P w 0 (fun _=>true) true fuel e [v]=some x):∃ z,v=.bool z:=by
 obtain⟨z,h1,_⟩:=DataW.trod_bool he h;exact⟨z,by simpa using h1⟩
theorem ntp_at {fuel:Nat} {v0 v1 v2 v3 v4 v5 v6 v7 v8 v9 v10 v11 v12:Value} {x:DataW H × List MemPlace} (hx:DataW.trod enc Tryz.prog w 0 (fun _=>true) true fuel 41 [v0,v1,v2,v3,v4,v5,v6,v7,v8,v9,v10,v11,v12]=some x) :
  ∃ h:Np,[v0,v1,v2,v3,v4,v5,v6,v7,v8,v9,v10,v11,v12]=npC h∧npOk h:=by
 obtain⟨_,hk⟩:=kinds_of_struct [.i64,.i64,.i64,.i64,.i64,.i64,.u32,.u32,.u32,.u64,.u64,.u64,.u64] Tryz.underlying41 (by kernel_rfl) (by kernel_rfl) (by kernel_rfl) hx;obtain⟨p0,e0,w0⟩:=hk 0 (by show _<13;decide) (by decide);replace w0:(Lit.int .i64 p0).wf=true:=w0;obtain⟨p1,e1,w1⟩:=hk 1 (by show _<13;decide) (by decide);replace w1:(Lit.int .i64 p1).wf=true:=w1;obtain⟨p2,e2,w2⟩:=hk 2 (by show _<13;decide) (by decide);replace w2:(Lit.int .i64 p2).wf=true:=w2;obtain⟨p3,e3,w3⟩:=hk 3 (by show _<13;decide) (by decide);replace w3:(Lit.int .i64 p3).wf=true:=w3;obtain⟨p4,e4,w4⟩:=hk 4 (by show _<13;decide) (by decide);replace w4:(Lit.int .i64 p4).wf=true:=w4;obtain⟨p5,e5,w5⟩:=hk 5 (by show _<13;decide) (by decide);replace w5:(Lit.int .i64 p5).wf=true:=w5;obtain⟨p6,e6,w6⟩:=hk 6 (by show _<13;decide) (by decide);replace w6:(Lit.int .u32 p6).wf=true:=w6;obtain⟨p7,e7,w7⟩:=hk 7 (by show _<13;decide) (by decide);replace w7:(Lit.int .u32 p7).wf=true:=w7;obtain⟨p8,e8,w8⟩:=hk 8 (by show _<13;decide) (by decide);replace w8:(Lit.int .u32 p8).wf=true:=w8;obtain⟨p9,e9,w9⟩:=hk 9 (by show _<13;decide) (by decide);replace w9:(Lit.int .u64 p9).wf=true:=w9;obtain⟨p10,e10,w10⟩:=hk 10 (by show _<13;decide) (by decide);replace w10:(Lit.int .u64 p10).wf=true:=w10;obtain⟨p11,e11,w11⟩:=hk 11 (by show _<13;decide) (by decide);replace w11:(Lit.int .u64 p11).wf=true:=w11;obtain⟨p12,e12,w12⟩:=hk 12 (by show _<13;decide) (by decide);replace w12:(Lit.int .u64 p12).wf=true:=w12;simp only[List.getElem_cons_zero,List.getElem_cons_succ] at e0 e1 e2 e3 e4 e5 e6 e7 e8 e9 e10 e11 e12;subst e0 e1 e2 e3 e4 e5 e6 e7 e8 e9 e10 e11 e12;refine⟨⟨p0,p1,p2,p3,p4,p5,p6,p7,p8,p9,p10,p11,p12⟩,rfl,?_⟩;unfold npOk;simp only[Lit.wf,IntKind.min,IntKind.max,IntKind.signed,IntKind.bits,Bool.and_eq_true,decide_eq_true_eq,Bool.false_eq_true,if_false] at w6 w7 w8 w9 w10 w11 w12;dsimp only;omega
theorem act_at {fuel:Nat} {cs:List Value} {x:DataW H × List MemPlace} (hx:DataW.trod enc Tryz.prog w 0 (fun _=>true) true fuel 45 cs=some x):∃ a:Ax,cs=axC a∧AxOk a:=by
 have hs:=Tryz.underlying45;have hl:cs.length=21:=(cs_len hs hx).trans (by kernel_rfl);match cs,hl,hx with
 | [v0,v1,v2,v3,v4,v5,v6,v7,v8,v9,v10,v11,v12,v13,v14,v15,v16,v17,v18,v19,v20],_,hx =>
  obtain⟨n0,y0,g0⟩:=fld_at hs hx 0 3 0 1 (by kernel_rfl);obtain⟨n1,y1,g1⟩:=fld_at hs hx 1 3 1 1 (by kernel_rfl);obtain⟨n2,y2,g2⟩:=fld_at hs hx 2 3 2 1 (by kernel_rfl);obtain⟨n3,y3,g3⟩:=fld_at hs hx 3 38 3 1 (by kernel_rfl);obtain⟨n4,y4,g4⟩:=fld_at hs hx 4 41 4 13 (by kernel_rfl);obtain⟨n5,y5,g5⟩:=fld_at hs hx 5 43 17 2 (by kernel_rfl);obtain⟨n6,y6,g6⟩:=fld_at hs hx 6 4 19 1 (by kernel_rfl);obtain⟨n7,y7,g7⟩:=fld_at hs hx 7 4 20 1 (by kernel_rfl);obtain⟨k,rfl,_⟩:=int_at Tryz.underlying3 g0;obtain⟨s,rfl,ws⟩:=int_at Tryz.underlying3 g1;obtain⟨l,rfl,_⟩:=int_at Tryz.underlying3 g2;obtain⟨nn,rfl,wn⟩:=int_at Tryz.underlying38 g3;obtain⟨h,hh,hok⟩:=ntp_at g4;have hi:=Tryz.underlying43;obtain⟨_,_,i0⟩:=fld_at hi g5 0 3 0 1 (by kernel_rfl);obtain⟨_,_,i1⟩:=fld_at hi g5 1 3 1 1 (by kernel_rfl);obtain⟨a,rfl,_⟩:=int_at Tryz.underlying3 i0;obtain⟨b,rfl,_⟩:=int_at Tryz.underlying3 i1;obtain⟨ba,rfl⟩:=bool_at Tryz.underlying4 g6;obtain⟨bb,rfl⟩:=bool_at Tryz.underlying4 g7;unfold npC at hh;simp only[List.cons.injEq,and_true] at hh;obtain⟨rfl,rfl,rfl,rfl,rfl,rfl,rfl,rfl,rfl,rfl,rfl,rfl,rfl⟩:=hh;refine⟨⟨k,s,l,nn,h,⟨a,b⟩,ba,bb⟩,rfl,?_,?_,hok⟩
  ·simp only[Lit.wf,IntKind.min,IntKind.max,IntKind.signed,IntKind.bits,Bool.and_eq_true,decide_eq_true_eq,if_true] at ws
   dsimp only;omega
  ·simp only[Lit.wf,IntKind.min,IntKind.max,IntKind.signed,IntKind.bits,Bool.and_eq_true,decide_eq_true_eq,Bool.false_eq_true,if_false] at wn
   dsimp only;omega
theorem vrow_acts {p:Option Addr} {n cap:Nat} {d:DataW H} {ps:List MemPlace} (h:DataW.Trod enc Tryz.prog w 0 (fun _=>true) true 28 (.slice p n cap) d ps):∃ l:List Ax,VRow axC 21 w p n cap l∧∀ x∈l,AxOk x:=
 vrow_of axC 21 axC_len (by decide) _ Tryz.underlying28 (by kernel_rfl) h (fun _ _ _ hx=>act_at hx)
theorem open_conf {r:Reach} {b0:Nat} {v:Value} {d:DataW H} {ps:List MemPlace} (hval:Value.okWide Tryz.prog w r b0 25 v) (h:DataW.Trod enc Tryz.prog w 0 (fun _=>true) true 25 v d ps):∃ c:Cf,v=cfV c:=by
 obtain⟨cs,rfl,hsz⟩:=okWide_struct Tryz.underlying25 hval;obtain⟨m,hx⟩:=h;have hs:=Tryz.underlying25;obtain⟨l⟩:=cs;have hl:l.length=12:=(cs_len hs hx).trans (by kernel_rfl);match l,hl,hx with
 | [v0,v1,v2,v3,v4,v5,v6,v7,v8,v9,v10,v11],_,hx =>
  simp only[Value.cells] at hx;obtain⟨n0,y0,g0⟩:=fld_at hs hx 0 3 0 1 (by kernel_rfl);obtain⟨n1,y1,g1⟩:=fld_at hs hx 1 3 1 1 (by kernel_rfl);obtain⟨n2,y2,g2⟩:=fld_at hs hx 2 3 2 1 (by kernel_rfl);obtain⟨n3,y3,g3⟩:=fld_at hs hx 3 3 3 1 (by kernel_rfl);obtain⟨n4,y4,g4⟩:=fld_at hs hx 4 23 4 5 (by kernel_rfl);obtain⟨n5,y5,g5⟩:=fld_at hs hx 5 3 9 1 (by kernel_rfl);obtain⟨n6,y6,g6⟩:=fld_at hs hx 6 3 10 1 (by kernel_rfl);obtain⟨n7,y7,g7⟩:=fld_at hs hx 7 3 11 1 (by kernel_rfl);obtain⟨z0,rfl,_⟩:=int_at Tryz.underlying3 g0;obtain⟨z1,rfl,_⟩:=int_at Tryz.underlying3 g1;obtain⟨z2,rfl,_⟩:=int_at Tryz.underlying3 g2;obtain⟨z3,rfl,_⟩:=int_at Tryz.underlying3 g3;obtain⟨z5,rfl,_⟩:=int_at Tryz.underlying3 g5;obtain⟨z6,rfl,_⟩:=int_at Tryz.underlying3 g6;obtain⟨z7,rfl,_⟩:=int_at Tryz.underlying3 g7;have hv:=Tryz.underlying23;obtain⟨_,_,i0⟩:=fld_at hv g4 0 3 0 1 (by kernel_rfl);obtain⟨s0,rfl,_⟩:=int_at Tryz.underlying3 i0;obtain⟨_,_,i1⟩:=fld_at hv g4 1 3 1 1 (by kernel_rfl);obtain⟨s1,rfl,_⟩:=int_at Tryz.underlying3 i1;obtain⟨_,_,i2⟩:=fld_at hv g4 2 3 2 1 (by kernel_rfl);obtain⟨s2,rfl,_⟩:=int_at Tryz.underlying3 i2;obtain⟨_,_,i3⟩:=fld_at hv g4 3 3 3 1 (by kernel_rfl);obtain⟨s3,rfl,_⟩:=int_at Tryz.underlying3 i3;obtain⟨_,_,i4⟩:=fld_at hv g4 4 3 4 1 (by kernel_rfl);obtain⟨s4,rfl,_⟩:=int_at Tryz.underlying3 i4;exact⟨⟨z0,z1,z2,z3,⟨s0,s1,s2,s3,s4⟩,z5,z6,z7⟩,rfl⟩
end
theorem open_quad {H:Type} {enc:TypeId × Value→H} {w:World} {r:Reach} {b0:Nat} {v:Value} {d:DataW H} {ps:List MemPlace} (hval:Value.okWide Tryz.prog w r b0 27 v) (h:DataW.Trod enc Tryz.prog w 0 (fun _=>true) true 27 v d ps):∃ c:Qd,v=qdV c:=by
 obtain⟨cs,rfl,hsz⟩:=okWide_struct Tryz.underlying27 hval;obtain⟨m,hx⟩:=h;have hs:=Tryz.underlying27;obtain⟨l⟩:=cs;have hl:l.length=4:=(cs_len hs hx).trans (by kernel_rfl);match l,hl,hx with
 | [v0,v1,v2,v3],_,hx =>
  simp only[Value.cells] at hx;obtain⟨n0,y0,g0⟩:=fld_at hs hx 0 3 0 1 (by kernel_rfl);obtain⟨n1,y1,g1⟩:=fld_at hs hx 1 3 1 1 (by kernel_rfl);obtain⟨n2,y2,g2⟩:=fld_at hs hx 2 3 2 1 (by kernel_rfl);obtain⟨n3,y3,g3⟩:=fld_at hs hx 3 3 3 1 (by kernel_rfl);obtain⟨z0,rfl,_⟩:=int_at Tryz.underlying3 g0;obtain⟨z1,rfl,_⟩:=int_at Tryz.underlying3 g1;obtain⟨z2,rfl,_⟩:=int_at Tryz.underlying3 g2;obtain⟨z3,rfl,_⟩:=int_at Tryz.underlying3 g3;exact⟨⟨z0,z1,z2,z3⟩,rfl⟩
end Go.Proofs.YtedgpfgccpnjnaaGreat
