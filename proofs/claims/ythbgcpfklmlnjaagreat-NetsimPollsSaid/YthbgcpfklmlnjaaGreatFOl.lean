/- Ol Om On -/
import Derived.Test.YthbgcpfklmlnjaaGreatFOi
import Derived.HandedShaped
import Derived.Lib.SmallJoins
namespace Go.Proofs.YthbgcpfklmlnjaaGreat
set_option linter.all false
set_option maxRecDepth 100000
open Go.RowKit
section
open Go.Sort
structure dU.Ok0 (w:World) (s:dU):Prop where
 nd:aS ndC 7 w s.pn s.nd.length s.cn s.nd
 lk:aS lkC 9 w s.pl s.lk.length s.cl s.lk
 ft:aS ftC 5 w s.pf s.ft.length s.cf s.ft
 ns:∀ x∈s.nd,aS I8 2 w x.ps x.n.sg.length x.cs x.n.sg/\aS YP 1 w x.pv x.n.sv.length x.cv x.n.sv
 ls:∀ x∈s.lk,aS UE 3 w x.p x.l.ch.length x.c x.l.ch
theorem dU.Ok0.ok {w:World} {s:dU} (h:s.Ok0 w) (hf:NR s):s.Ok w:=by
 obtain⟨a1,a2,a3,a4,a5⟩:=hf;refine⟨h.nd,h.lk,h.ft,fun x hx=>?_,fun x hx=>?_,by omega,by omega,by omega⟩
 ·obtain⟨i,hi,rfl⟩:=List.getElem_of_mem hx
  have:=a4 i hi;rw[List.getD_eq_getElem?_getD,List.getElem?_eq_getElem hi] at this;exact⟨(h.ns _ hx).1,(h.ns _ hx).2,Nat.le_trans this.1 (by decide),Nat.le_trans this.2 (by decide)⟩
 ·obtain⟨i,hi,rfl⟩:=List.getElem_of_mem hx
  have:=a5 i hi;rw[List.getD_eq_getElem?_getD,List.getElem?_eq_getElem hi] at this;exact⟨h.ls _ hx,Nat.le_trans this (by decide)⟩
end
section
open Go.ChangeShapes Go.WideShapes Go.ChangeAt Go.Deep
theorem take1 {cs:List Value} {j:Nat} {v:Value} (h:cs[j]? = some v):(cs.drop j).take 1=[v]:=by
 obtain⟨hj,rfl⟩:=List.getElem?_eq_some_iff.1 h;rw[List.drop_eq_getElem_cons hj];rfl
def BP (P:Program) (f:Field):Bool:=match P.underlying f.type with
 | some (.int .i64)=>true
 | _=>false
theorem J2 {P:Program} {f:Field} (h:BP P f=true):P.underlying f.type=some (.int .i64):=by
 unfold BP at h;split at h
 ·assumption
 ·cases h
section
variable {H:Type} {enc:TypeId × Value->H} {P:Program} {w:World}
theorem ints_of_struct {e:TypeId} {fs:Array Field} {fuel:Nat} {cs:List Value} {x:DataW H × List MemPlace} (hs:P.underlying e=some (.struct fs)) (hone:oneCellFields P fs=true) (hint:fs.all (BP P)=true) (hC:P.cellsOf e=fs.size)
  (h:DataW.trod enc P w 0 (fun _=>true) true fuel e cs=some x):∃ zs:List Int,zs.length=fs.size/\cs=zs.map (Value.int .i64)/\∀ z∈zs,(Lit.int .i64 z).wf=true:=by
 obtain⟨ys,n',_,hy,hlen,hyl,hf⟩:=DataW.trod_struct hs h;rw[hC] at hlen
 have key:∀ j (hj:j<cs.length),∃ z,cs[j]=Value.int .i64 z/\(Lit.int .i64 z).wf=true:=by
  intro j hj;have hjf:j<fs.size:=by omega
  have hfj:fs[j]? = some fs[j]:=Array.getElem?_eq_getElem hjf;obtain⟨ho,hk⟩:=hone_of hone j fs[j] hfj;have h1:=hf j fs[j] hfj;rw[ho,hk,take1 (List.getElem?_eq_getElem hj)] at h1;have hyj:ys[j]? = some (ys[j]'(by omega)):=List.getElem?_eq_getElem (by omega);rw[hyj] at h1;have hu:=J2 (Array.all_eq_true.1 hint j hjf);obtain⟨z,hz,_,hw⟩:=DataW.trod_int hu h1;simp only[List.cons.injEq,and_true] at hz;exact⟨z,hz,hw⟩
 refine⟨cs.map fun v=>match v with | .int _ z=>z | _=>0,by simp[hlen],?_,?_⟩
 ·rw[List.map_map]
  apply List.ext_getElem (by simp)
  intro j h1 h2;obtain⟨z,hz,_⟩:=key j h1;simp[hz]
 ·intro z hz
  obtain⟨v,hv,rfl⟩:=List.mem_map.1 hz;obtain⟨j,hj,rfl⟩:=List.mem_iff_getElem.1 hv;obtain⟨z,hz,hw⟩:=key j hj;simpa [hz] using hw
end
section
variable {H:Type} {enc:TypeId × Value->H} {w:World}
theorem eZ {P:Program} {e:TypeId} {fs:Array Field} {fuel:Nat} {cs:List Value} {x:DataW H × List MemPlace} (hs:P.underlying e=some (.struct fs)) (h:DataW.trod enc P w 0 (fun _=>true) true fuel e cs=some x)
  (j:Nat) (T:TypeId) (o k:Nat) (hf:(fs[j]?).map (fun f=>(f.type,f.offset,P.cellsOf f.type))=some (T,o,k)):∃ n y,DataW.trod enc P w 0 (fun _=>true) true n T ((cs.drop o).take k)=some y:=by
 obtain⟨ys,n,_,_,_,hyl,hfl⟩:=DataW.trod_struct hs h
 cases hj:fs[j]? with
 | none=>rw[hj] at hf;cases hf
 | some f =>
  rw[hj] at hf;simp only[Option.map_some,Option.some.injEq,Prod.mk.injEq] at hf;obtain⟨rfl,rfl,rfl⟩:=hf;have hlt:j<fs.size:=(Array.getElem?_eq_some_iff.1 hj).1;exact⟨n,ys[j]'(by omega),by rw[hfl j f hj];exact List.getElem?_eq_getElem _⟩
theorem MV {P:Program} {e:TypeId} {fs:Array Field} {fuel:Nat} {cs:List Value} {x:DataW H × List MemPlace} (hs:P.underlying e=some (.struct fs)) (h:DataW.trod enc P w 0 (fun _=>true) true fuel e cs=some x):cs.length=P.cellsOf e:=by
 obtain⟨ys,n,_,_,hl,_⟩:=DataW.trod_struct hs h;exact hl
theorem list7 {α:Type} {l:List α} (h:l.length=7):∃ a b c d e f g,l=[a,b,c,d,e,f,g]:=by
 match l,h with
 | [a,b,c,d,e,f,g],_=>exact⟨a,b,c,d,e,f,g,rfl⟩
theorem list9 {α:Type} {l:List α} (h:l.length=9):∃ a b c d e f g i j,l=[a,b,c,d,e,f,g,i,j]:=by
 match l,h with
 | [a,b,c,d,e,f,g,i,j],_=>exact⟨a,b,c,d,e,f,g,i,j,rfl⟩
theorem list5 {α:Type} {l:List α} (h:l.length=5):∃ a b c d e,l=[a,b,c,d,e]:=by
 match l,h with
 | [a,b,c,d,e],_=>exact⟨a,b,c,d,e,rfl⟩
theorem jW {P:Program} {e:TypeId} {k:IntKind} {fuel:Nat} {v:Value} {x:DataW H × List MemPlace} (he:P.underlying e=some (.int k)) (h:DataW.trod enc P w 0 (fun _=>true) true fuel e [v]=some x):∃ z,v=.int k z/\(Lit.int k z).wf=true:=by
 obtain⟨z,h1,_,h2⟩:=DataW.trod_int he h;exact⟨z,by simpa using h1,h2⟩
theorem bool_at {P:Program} {e:TypeId} {fuel:Nat} {v:Value} {x:DataW H × List MemPlace} (he:P.underlying e=some .bool) (h:DataW.trod enc P w 0 (fun _=>true) true fuel e [v]=some x):∃ z,v=.bool z:=by
 obtain⟨z,h1,_⟩:=DataW.trod_bool he h;exact⟨z,by simpa using h1⟩
theorem nC {P:Program} {t e:TypeId} {fuel:Nat} {v:Value} {y:DataW H × List MemPlace} (ht:P.underlying t=some (.slice e)) (hf:DataW.trod enc P w 0 (fun _=>true) true fuel t [v]=some y) :
  ∃ a l c,v=.slice a l c/\DataW.Trod enc P w 0 (fun _=>true) true t (.slice a l c) y.1 y.2:=by
 obtain⟨a,l,c,h⟩:=Joins.slice_form ht hf;have hv:v=.slice a l c:=by simpa using h
 subst hv;exact⟨a,l,c,rfl,fuel,by simpa [Value.cells] using hf⟩
theorem Q0 {fuel:Nat} {a b:Value} {x:DataW H × List MemPlace} (h:DataW.trod enc Tryz.prog w 0 (fun _=>true) true fuel 45 [a,b]=some x):∃ c d,a=.int .i64 c/\b=.int .i64 d:=by
 obtain⟨ys,m,_,_,_,hl,hf⟩:=DataW.trod_array Tryz.underlying45 h;have hc:Tryz.prog.cellsOf 3=1:=by kernel_rfl
 have f0:=hf 0 (by decide);have f1:=hf 1 (by decide);rw[hc] at f0 f1;have g0:ys[0]? = some (ys[0]'(by omega)):=List.getElem?_eq_getElem (by omega);have g1:ys[1]? = some (ys[1]'(by omega)):=List.getElem?_eq_getElem (by omega);obtain⟨c,hc0,_⟩:=jW Tryz.underlying3 (f0.trans g0);obtain⟨d,hd0,_⟩:=jW Tryz.underlying3 (f1.trans g1);exact⟨c,d,hc0,hd0⟩
theorem UK {p:Option Addr} {n cap:Nat} {d:DataW H} {ps:List MemPlace} (h:DataW.Trod enc Tryz.prog w 0 (fun _=>true) true 39 (.slice p n cap) d ps):∃ l:List Sg,aS I8 2 w p n cap l:=by
 obtain⟨l,hl,_⟩:=qV I8 2 (fun _=>rfl) (by decide) (fun _=>True) Tryz.underlying39 (by kernel_rfl) h (fun fuel cs x hx=>by
  obtain⟨zs,h1,rfl,_⟩:=ints_of_struct Tryz.underlying76 (by kernel_rfl) (by kernel_rfl) (by kernel_rfl) hx;match zs,h1 with
  | [a,b],_=>exact⟨⟨a,b⟩,rfl,trivial⟩)
 exact⟨l,hl⟩
theorem UQ {p:Option Addr} {n cap:Nat} {d:DataW H} {ps:List MemPlace} (h:DataW.Trod enc Tryz.prog w 0 (fun _=>true) true 46 (.slice p n cap) d ps):∃ l:List Ch,aS UE 3 w p n cap l:=by
 obtain⟨l,hl,_⟩:=qV UE 3 (fun _=>rfl) (by decide) (fun _=>True) Tryz.underlying46 (by kernel_rfl) h (fun fuel cs x hx=>by
  obtain⟨zs,h1,rfl,_⟩:=ints_of_struct Tryz.underlying162 (by kernel_rfl) (by kernel_rfl) (by kernel_rfl) hx;match zs,h1 with
  | [a,b,c],_=>exact⟨⟨a,b,c⟩,rfl,trivial⟩)
 exact⟨l,hl⟩
theorem UO {p:Option Addr} {n cap:Nat} {d:DataW H} {ps:List MemPlace} (h:DataW.Trod enc Tryz.prog w 0 (fun _=>true) true 24 (.slice p n cap) d ps):∃ l:List Ft,aS ftC 5 w p n cap l:=by
 obtain⟨l,hl,_⟩:=qV ftC 5 (fun _=>rfl) (by decide) (fun _=>True) Tryz.underlying24 (by kernel_rfl) h (fun fuel cs x hx=>by
  obtain⟨zs,h1,rfl,_⟩:=ints_of_struct Tryz.underlying83 (by kernel_rfl) (by kernel_rfl) (by kernel_rfl) hx;match zs,h1 with
  | [a,b,c,d,e],_=>exact⟨⟨a,b,c,d,e⟩,rfl,trivial⟩)
 exact⟨l,hl⟩
theorem UN {p:Option Addr} {n cap:Nat} {d:DataW H} {ps:List MemPlace} (h:DataW.Trod enc Tryz.prog w 0 (fun _=>true) true 42 (.slice p n cap) d ps):∃ l:List Int,aS YP 1 w p n cap l:=by
 obtain⟨l,hl,_⟩:=RI (k:=.i64) Tryz.underlying42 Tryz.underlying3 (by kernel_rfl) h;exact⟨l,hl⟩
theorem UL {p:Option Addr} {n cap:Nat} {d:DataW H} {ps:List MemPlace} (h:DataW.Trod enc Tryz.prog w 0 (fun _=>true) true 22 (.slice p n cap) d ps) :
  ∃ l:List lM,aS ndC 7 w p n cap l/\∀ x∈l,aS I8 2 w x.ps x.n.sg.length x.cs x.n.sg/\aS YP 1 w x.pv x.n.sv.length x.cv x.n.sv:=
 qV ndC 7 P5 (by decide) _ Tryz.underlying22 (by kernel_rfl) h (fun fuel cs x hx=>by
  have hs:=Tryz.underlying44;obtain⟨v0,v1,v2,v3,v4,v5,v6,rfl⟩:=list7 ((MV hs hx).trans (by kernel_rfl));obtain⟨n1,y1,g1⟩:=eZ hs hx 0 41 0 2 (by kernel_rfl);obtain⟨n2,y2,g2⟩:=eZ hs hx 1 3 2 1 (by kernel_rfl);obtain⟨n3,y3,g3⟩:=eZ hs hx 2 4 3 1 (by kernel_rfl);obtain⟨n4,y4,g4⟩:=eZ hs hx 3 3 4 1 (by kernel_rfl);obtain⟨n5,y5,g5⟩:=eZ hs hx 4 3 5 1 (by kernel_rfl);obtain⟨n6,y6,g6⟩:=eZ hs hx 5 42 6 1 (by kernel_rfl);have ho:=Tryz.underlying41;obtain⟨n7,y7,g7⟩:=eZ ho g1 0 3 0 1 (by kernel_rfl);obtain⟨n8,y8,g8⟩:=eZ ho g1 1 39 1 1 (by kernel_rfl);obtain⟨ph,rfl,_⟩:=jW Tryz.underlying3 g7;obtain⟨ps,ns,cs',rfl,t1⟩:=nC Tryz.underlying39 g8;obtain⟨tol,rfl,_⟩:=jW Tryz.underlying3 g2;obtain⟨rf,rfl⟩:=bool_at Tryz.underlying4 g3;obtain⟨er,rfl,_⟩:=jW Tryz.underlying3 g4;obtain⟨st,rfl,_⟩:=jW Tryz.underlying3 g5;obtain⟨pv,nv,cv,rfl,t2⟩:=nC Tryz.underlying42 g6;obtain⟨sg,r1⟩:=UK t1;obtain⟨sv,r2⟩:=UN t2;have e1:=r1.len;have e2:=r2.len;subst e1;subst e2;exact⟨⟨⟨ph,sg,tol,rf,er,st,sv⟩,ps,cs',pv,cv⟩,rfl,r1,r2⟩)
theorem UM {p:Option Addr} {n cap:Nat} {d:DataW H} {ps:List MemPlace} (h:DataW.Trod enc Tryz.prog w 0 (fun _=>true) true 23 (.slice p n cap) d ps) :
  ∃ l:List dQ,aS lkC 9 w p n cap l/\∀ x∈l,aS UE 3 w x.p x.l.ch.length x.c x.l.ch:=
 qV lkC 9 P8 (by decide) _ Tryz.underlying23 (by kernel_rfl) h (fun fuel cs x hx=>by
  have hs:=Tryz.underlying50;obtain⟨v0,v1,v2,v3,v4,v5,v6,v7,v8,rfl⟩:=list9 ((MV hs hx).trans (by kernel_rfl));obtain⟨n0,y0,g0⟩:=eZ hs hx 0 3 0 1 (by kernel_rfl);obtain⟨n1,y1,g1⟩:=eZ hs hx 1 3 1 1 (by kernel_rfl);obtain⟨n2,y2,g2⟩:=eZ hs hx 2 48 2 7 (by kernel_rfl);have ho:=Tryz.underlying48;obtain⟨n3,y3,g3⟩:=eZ ho g2 0 45 0 2 (by kernel_rfl);obtain⟨n4,y4,g4⟩:=eZ ho g2 1 45 2 2 (by kernel_rfl);obtain⟨n5,y5,g5⟩:=eZ ho g2 2 3 4 1 (by kernel_rfl);obtain⟨n6,y6,g6⟩:=eZ ho g2 3 25 5 1 (by kernel_rfl);obtain⟨n7,y7,g7⟩:=eZ ho g2 4 46 6 1 (by kernel_rfl);obtain⟨A,rfl,_⟩:=jW Tryz.underlying3 g0;obtain⟨B,rfl,_⟩:=jW Tryz.underlying3 g1;obtain⟨d0,d1,q0,q1⟩:=Q0 g3;obtain⟨e0,e1,q2,q3⟩:=Q0 g4;subst q0;subst q1;subst q2;subst q3;obtain⟨lo,rfl,_⟩:=jW Tryz.underlying3 g5;obtain⟨sd,rfl,_⟩:=jW Tryz.underlying25 g6;obtain⟨pc,nc,cc,rfl,t1⟩:=nC Tryz.underlying46 g7;obtain⟨ch,r1⟩:=UQ t1;have e2:=r1.len;subst e2;exact⟨⟨⟨A,B,d0,d1,e0,e1,lo,sd,ch⟩,pc,cc⟩,rfl,r1⟩)
theorem VF {r:Reach} {b0:Nat} {v:Value} {d:DataW H} {p:List MemPlace} (hv:Value.okWide Tryz.prog w r b0 27 v) (h:DataW.Trod enc Tryz.prog w 0 (fun _=>true) true 27 v d p):∃ s:dU,v=fZ s/\s.Ok0 w:=by
 have hs:=Tryz.underlying27;obtain⟨cs,rfl,hsz⟩:=okWide_struct hs hv;obtain⟨fuel,hx⟩:=h;have hx:DataW.trod enc Tryz.prog w 0 (fun _=>true) true fuel 27 cs.toList=some (d,p):=hx;obtain⟨v0,v1,v2,v3,v4,hcs⟩:=list5 ((MV hs hx).trans (by kernel_rfl));rw[hcs] at hx;obtain⟨n0,y0,g0⟩:=eZ hs hx 0 22 0 1 (by kernel_rfl);obtain⟨n1,y1,g1⟩:=eZ hs hx 1 23 1 1 (by kernel_rfl);obtain⟨n2,y2,g2⟩:=eZ hs hx 2 24 2 1 (by kernel_rfl);obtain⟨n3,y3,g3⟩:=eZ hs hx 3 3 3 1 (by kernel_rfl);obtain⟨n4,y4,g4⟩:=eZ hs hx 4 25 4 1 (by kernel_rfl);obtain⟨pn,ln,cn,rfl,t0⟩:=nC Tryz.underlying22 g0;obtain⟨pl,ll,cl,rfl,t1⟩:=nC Tryz.underlying23 g1;obtain⟨pf,lf,cf,rfl,t2⟩:=nC Tryz.underlying24 g2;obtain⟨un,rfl,_⟩:=jW Tryz.underlying3 g3;obtain⟨sd,rfl,_⟩:=jW Tryz.underlying25 g4;obtain⟨nd,r0,q0⟩:=UL t0;obtain⟨lk,r1,q1⟩:=UM t1;obtain⟨ft,r2⟩:=UO t2;have e0:=r0.len;have e1:=r1.len;have e2:=r2.len;subst e0;subst e1;subst e2;refine⟨⟨nd,lk,ft,un,sd,pn,cn,pl,cl,pf,cf⟩,?_,⟨r0,r1,r2,q0,q1⟩⟩;unfold fZ;congr 1
 exact Array.ext' hcs
end
theorem rnds_of {W:World} (h:W.ShapedOpen Tryz.prog):∃ R,tT W R:=by
 obtain⟨zero,hz⟩:∃ zero,((begin Tryz.prog (fun _ _=>0) default).world.heap[(0:Nat)]?).bind Obj.row? = some (zero,222)/\zero.size=6:=⟨#[.int .u64 0,.int .u64 0,.int .u64 0,.int .u64 0,.int .u64 0,.int .u64 0],by kernel_rfl,rfl⟩;obtain⟨cs,hh,hs,hr⟩:=h.1 0 zero 222 (by decide +kernel) hz.1;obtain⟨ts,hts,_,hall⟩:=hr (by kernel_rfl);have hts2:Tryz.prog.cellTypes Tryz.prog.depth 222=some [219,25,219,25,219,25]:=by kernel_rfl
 rw[hts2] at hts
 cases hts
 rw[hz.2] at hs
 have key:∀ i (hi:i<6),∃ n,cs[i]? = some (.int .u64 n)/\0<=n:=fun i hi=>by
  have h1:i<cs.size:=by omega
  obtain⟨u,hu,hok⟩:=hall i cs[i] (by simp[h1])
  have hu2:Tryz.prog.underlying u=some (.int .u64):=by
   have e:i=0\/i=1\/i=2\/i=3\/i=4\/i=5:=by omega
   have e2:u=219\/u=25:=by
    rcases e with rfl|rfl|rfl|rfl|rfl|rfl
    ·exact .inl (by simpa using hu.symm)
    ·exact .inr (by simpa using hu.symm)
    ·exact .inl (by simpa using hu.symm)
    ·exact .inr (by simpa using hu.symm)
    ·exact .inl (by simpa using hu.symm)
    ·exact .inr (by simpa using hu.symm)
   rcases e2 with rfl|rfl
   ·exact Tryz.underlying219
   ·exact Tryz.underlying25
  unfold Cell.ok at hok;rw[hu2] at hok;rw[Array.getElem?_eq_getElem h1]
  cases hv:cs[i]<;>rw[hv] at hok<;>simp at hok
  case int k' n =>
   obtain⟨rfl,hn⟩:=hok;refine⟨n,rfl,?_⟩;have:=hn.1;simpa [IntKind.min,IntKind.signed] using this
 obtain⟨s0,e0,z0⟩:=key 0 (by omega);obtain⟨m0,e1,_⟩:=key 1 (by omega);obtain⟨s1,e2,z1⟩:=key 2 (by omega);obtain⟨m1,e3,_⟩:=key 3 (by omega);obtain⟨s2,e4,z2⟩:=key 4 (by omega);obtain⟨m2,e5,_⟩:=key 5 (by omega);refine⟨[(s0,m0),(s1,m1),(s2,m2)],s0,m0,s1,m1,s2,m2,rfl,z0,z1,z2,?_⟩;rw[hh];congr 2
 apply Array.ext (by simpa using hs)
 intro i h1 h2;have e:i=0\/i=1\/i=2\/i=3\/i=4\/i=5:=by omega
 rw[Array.getElem?_eq_some_iff] at e0 e1 e2 e3 e4 e5;rcases e with rfl|rfl|rfl|rfl|rfl|rfl
 ·exact e0.2
 ·exact e1.2
 ·exact e2.2
 ·exact e3.2
 ·exact e4.2
 ·exact e5.2
end
section
open Go.Sort
end
end Go.Proofs.YthbgcpfklmlnjaaGreat
