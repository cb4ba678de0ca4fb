/- Om On Oo Op Oq Ia Ib Ic -/
import Derived.Test.YtppjhbjmfkiejaaGreatFOi
import Derived.HandedShaped
import Derived.Lib.SmallJoins
import Derived.Maps.AppendAt
import Derived.Test.YtppjhbjmfkiejaaGreatFOa
namespace Go.Proofs.YtppjhbjmfkiejaaGreat
set_option linter.all false
open List (getElem?_eq_getElem length_append map_cons map_nil)
set_option maxRecDepth 100000
set_option maxHeartbeats 8000000
open Go.RowKit
section
open Go.ChangeShapes Go.WideShapes Go.ChangeAt Go.Deep
theorem take1 {cs:List Value} {j:Nat} {v:Value} (h:cs[j]? = some v):(cs.drop j).take 1=[v]:=by
 obtain⟨hj,rfl⟩:=List.getElem?_eq_some_iff.1 h;rw[List.drop_eq_getElem_cons hj];rfl
def BP (P:Program) (f:Field):Bool:=match P.underlying f.type with
 | some (.int .i64)=>true
 | _=>false
theorem KF {P:Program} {f:Field} (h:BP P f=true):P.underlying f.type=some (.int .i64):=by
 unfold BP at h;split at h
 ·assumption
 ·cases h
section
variable {H:Type} {enc:TypeId × Value->H} {P:Program} {w:World}
theorem ints_of_struct {e:TypeId} {fs:Array Field} {fuel:Nat} {cs:List Value} {x:DataW H × List MemPlace} (hs:P.underlying e=some (.struct fs)) (hone:oneCellFields P fs=true) (hint:fs.all (BP P)=true) (hC:P.cellsOf e=fs.size)
  (h:DataW.trod enc P w 0 (fun _=>true) true fuel e cs=some x):∃ zs:List Int,zs.length=fs.size/\cs=zs.map (Value.int .i64)/\∀ z∈zs,(Lit.int .i64 z).wf=true:=by
 obtain⟨ys,n',_,hy,hlen,hyl,hf⟩:=DataW.trod_struct hs h;rw[hC] at hlen
 have key:∀ j (hj:j<cs.length),∃ z,cs[j]=Value.int .i64 z/\(Lit.int .i64 z).wf=true:=by
  intro j hj;have hjf:j<fs.size:=by omega
  have hfj:fs[j]? = some fs[j]:=Array.getElem?_eq_getElem hjf;obtain⟨ho,hk⟩:=hone_of hone j fs[j] hfj;have h1:=hf j fs[j] hfj;rw[ho,hk,take1 (getElem?_eq_getElem hj)] at h1;have hyj:ys[j]? = some (ys[j]'(by omega)):=getElem?_eq_getElem (by omega);rw[hyj] at h1;have hu:=KF (Array.all_eq_true.1 hint j hjf);obtain⟨z,hz,_,hw⟩:=DataW.trod_int hu h1;simp only[List.cons.injEq,and_true] at hz;exact⟨z,hz,hw⟩
 refine⟨cs.map fun v=>match v with | .int _ z=>z | _=>0,by simp[hlen],?_,?_⟩
 ·rw[List.map_map]
  apply List.ext_getElem (by simp)
  intro j h1 h2;obtain⟨z,hz,_⟩:=key j h1;simp[hz]
 ·intro z hz
  obtain⟨v,hv,rfl⟩:=List.mem_map.1 hz;obtain⟨j,hj,rfl⟩:=List.mem_iff_getElem.1 hv;obtain⟨z,hz,hw⟩:=key j hj;simpa [hz] using hw
end
section
variable {H:Type} {enc:TypeId × Value->H} {w:World}
theorem dH {P:Program} {e:TypeId} {fs:Array Field} {fuel:Nat} {cs:List Value} {x:DataW H × List MemPlace} (hs:P.underlying e=some (.struct fs)) (h:DataW.trod enc P w 0 (fun _=>true) true fuel e cs=some x)
  (j:Nat) (T:TypeId) (o k:Nat) (hf:(fs[j]?).map (fun f=>(f.type,f.offset,P.cellsOf f.type))=some (T,o,k)):∃ n y,DataW.trod enc P w 0 (fun _=>true) true n T ((cs.drop o).take k)=some y:=by
 obtain⟨ys,n,_,_,_,hyl,hfl⟩:=DataW.trod_struct hs h
 cases hj:fs[j]? with
 | none=>rw[hj] at hf;cases hf
 | some f =>
  rw[hj] at hf;simp only[Option.map_some,Option.some.injEq,Prod.mk.injEq] at hf;obtain⟨rfl,rfl,rfl⟩:=hf;have hlt:j<fs.size:=(Array.getElem?_eq_some_iff.1 hj).1;exact⟨n,ys[j]'(by omega),by rw[hfl j f hj];exact getElem?_eq_getElem _⟩
theorem II {P:Program} {e:TypeId} {fs:Array Field} {fuel:Nat} {cs:List Value} {x:DataW H × List MemPlace} (hs:P.underlying e=some (.struct fs)) (h:DataW.trod enc P w 0 (fun _=>true) true fuel e cs=some x):cs.length=P.cellsOf e:=by
 obtain⟨ys,n,_,_,hl,_⟩:=DataW.trod_struct hs h;exact hl
theorem list7 {α:Type} {l:List α} (h:l.length=7):∃ a b c d e f g,l=[a,b,c,d,e,f,g]:=by
 match l,h with
 | [a,b,c,d,e,f,g],_=>exact⟨a,b,c,d,e,f,g,rfl⟩
theorem list9 {α:Type} {l:List α} (h:l.length=9):∃ a b c d e f g i j,l=[a,b,c,d,e,f,g,i,j]:=by
 match l,h with
 | [a,b,c,d,e,f,g,i,j],_=>exact⟨a,b,c,d,e,f,g,i,j,rfl⟩
theorem list5 {α:Type} {l:List α} (h:l.length=5):∃ a b c d e,l=[a,b,c,d,e]:=by
 match l,h with
 | [a,b,c,d,e],_=>exact⟨a,b,c,d,e,rfl⟩
theorem fM {P:Program} {e:TypeId} {k:IntKind} {fuel:Nat} {v:Value} {x:DataW H × List MemPlace} (he:P.underlying e=some (.int k)) (h:DataW.trod enc P w 0 (fun _=>true) true fuel e [v]=some x):∃ z,v=.int k z/\(Lit.int k z).wf=true:=by
 obtain⟨z,h1,_,h2⟩:=DataW.trod_int he h;exact⟨z,by simpa using h1,h2⟩
theorem bool_at {P:Program} {e:TypeId} {fuel:Nat} {v:Value} {x:DataW H × List MemPlace} (he:P.underlying e=some .bool) (h:DataW.trod enc P w 0 (fun _=>true) true fuel e [v]=some x):∃ z,v=.bool z:=by
 obtain⟨z,h1,_⟩:=DataW.trod_bool he h;exact⟨z,by simpa using h1⟩
theorem mV {P:Program} {t e:TypeId} {fuel:Nat} {v:Value} {y:DataW H × List MemPlace} (ht:P.underlying t=some (.slice e)) (hf:DataW.trod enc P w 0 (fun _=>true) true fuel t [v]=some y) :
  ∃ a l c,v=.slice a l c/\DataW.Trod enc P w 0 (fun _=>true) true t (.slice a l c) y.1 y.2:=by
 obtain⟨a,l,c,h⟩:=Joins.slice_form ht hf;have hv:v=.slice a l c:=by simpa using h
 subst hv;exact⟨a,l,c,rfl,fuel,by simpa [Value.cells] using hf⟩
theorem RV {fuel:Nat} {a b:Value} {x:DataW H × List MemPlace} (h:DataW.trod enc Tryz.prog w 0 (fun _=>true) true fuel 76 [a,b]=some x):∃ c d,a=.int .i64 c/\b=.int .i64 d:=by
 obtain⟨ys,m,_,_,_,hl,hf⟩:=DataW.trod_array Tryz.underlying76 h;have hc:Tryz.prog.cellsOf 3=1:=by kernel_rfl
 have f0:=hf 0 (by decide);have f1:=hf 1 (by decide);rw[hc] at f0 f1;have g0:ys[0]? = some (ys[0]'(by omega)):=getElem?_eq_getElem (by omega);have g1:ys[1]? = some (ys[1]'(by omega)):=getElem?_eq_getElem (by omega);obtain⟨c,hc0,_⟩:=fM Tryz.underlying3 (f0.trans g0);obtain⟨d,hd0,_⟩:=fM Tryz.underlying3 (f1.trans g1);exact⟨c,d,hc0,hd0⟩
theorem VF {p:Option Addr} {n cap:Nat} {d:DataW H} {ps:List MemPlace} (h:DataW.Trod enc Tryz.prog w 0 (fun _=>true) true 49 (.slice p n cap) d ps):∃ l:List Sg,aR SI 2 w p n cap l:=by
 obtain⟨l,hl,_⟩:=nW SI 2 (fun _=>rfl) (by decide) (fun _=>True) Tryz.underlying49 (by kernel_rfl) h (fun fuel cs x hx=>by
  obtain⟨zs,h1,rfl,_⟩:=ints_of_struct Tryz.underlying48 (by kernel_rfl) (by kernel_rfl) (by kernel_rfl) hx;match zs,h1 with
  | [a,b],_=>exact⟨⟨a,b⟩,rfl,trivial⟩)
 exact⟨l,hl⟩
theorem VN {p:Option Addr} {n cap:Nat} {d:DataW H} {ps:List MemPlace} (h:DataW.Trod enc Tryz.prog w 0 (fun _=>true) true 77 (.slice p n cap) d ps):∃ l:List Ch,aR chC 3 w p n cap l:=by
 obtain⟨l,hl,_⟩:=nW chC 3 (fun _=>rfl) (by decide) (fun _=>True) Tryz.underlying77 (by kernel_rfl) h (fun fuel cs x hx=>by
  obtain⟨zs,h1,rfl,_⟩:=ints_of_struct Tryz.underlying237 (by kernel_rfl) (by kernel_rfl) (by kernel_rfl) hx;match zs,h1 with
  | [a,b,c],_=>exact⟨⟨a,b,c⟩,rfl,trivial⟩)
 exact⟨l,hl⟩
theorem VK {p:Option Addr} {n cap:Nat} {d:DataW H} {ps:List MemPlace} (h:DataW.Trod enc Tryz.prog w 0 (fun _=>true) true 24 (.slice p n cap) d ps):∃ l:List Ft,aR ftC 5 w p n cap l:=by
 obtain⟨l,hl,_⟩:=nW ftC 5 (fun _=>rfl) (by decide) (fun _=>True) Tryz.underlying24 (by kernel_rfl) h (fun fuel cs x hx=>by
  obtain⟨zs,h1,rfl,_⟩:=ints_of_struct Tryz.underlying44 (by kernel_rfl) (by kernel_rfl) (by kernel_rfl) hx;match zs,h1 with
  | [a,b,c,d,e],_=>exact⟨⟨a,b,c,d,e⟩,rfl,trivial⟩)
 exact⟨l,hl⟩
theorem VJ {p:Option Addr} {n cap:Nat} {d:DataW H} {ps:List MemPlace} (h:DataW.Trod enc Tryz.prog w 0 (fun _=>true) true 52 (.slice p n cap) d ps):∃ l:List Int,aR C9 1 w p n cap l:=by
 obtain⟨l,hl,_⟩:=SE (k:=.i64) Tryz.underlying52 Tryz.underlying3 (by kernel_rfl) h;exact⟨l,hl⟩
theorem VG {p:Option Addr} {n cap:Nat} {d:DataW H} {ps:List MemPlace} (h:DataW.Trod enc Tryz.prog w 0 (fun _=>true) true 22 (.slice p n cap) d ps) :
  ∃ l:List vT,aR ndC 7 w p n cap l/\∀ x∈l,aR SI 2 w x.ps x.n.sg.length x.cs x.n.sg/\aR C9 1 w x.pv x.n.sv.length x.cv x.n.sv:=
 nW ndC 7 QT (by decide) _ Tryz.underlying22 (by kernel_rfl) h (fun fuel cs x hx=>by
  have hs:=Tryz.underlying54;obtain⟨v0,v1,v2,v3,v4,v5,v6,rfl⟩:=list7 ((II hs hx).trans (by kernel_rfl));obtain⟨n1,y1,g1⟩:=dH hs hx 0 51 0 2 (by kernel_rfl);obtain⟨n2,y2,g2⟩:=dH hs hx 1 3 2 1 (by kernel_rfl);obtain⟨n3,y3,g3⟩:=dH hs hx 2 4 3 1 (by kernel_rfl);obtain⟨n4,y4,g4⟩:=dH hs hx 3 3 4 1 (by kernel_rfl);obtain⟨n5,y5,g5⟩:=dH hs hx 4 3 5 1 (by kernel_rfl);obtain⟨n6,y6,g6⟩:=dH hs hx 5 52 6 1 (by kernel_rfl);have ho:=Tryz.underlying51;obtain⟨n7,y7,g7⟩:=dH ho g1 0 3 0 1 (by kernel_rfl);obtain⟨n8,y8,g8⟩:=dH ho g1 1 49 1 1 (by kernel_rfl);obtain⟨ph,rfl,_⟩:=fM Tryz.underlying3 g7;obtain⟨ps,ns,cs',rfl,t1⟩:=mV Tryz.underlying49 g8;obtain⟨tol,rfl,_⟩:=fM Tryz.underlying3 g2;obtain⟨rf,rfl⟩:=bool_at Tryz.underlying4 g3;obtain⟨er,rfl,_⟩:=fM Tryz.underlying3 g4;obtain⟨st,rfl,_⟩:=fM Tryz.underlying3 g5;obtain⟨pv,nv,cv,rfl,t2⟩:=mV Tryz.underlying52 g6;obtain⟨sg,r1⟩:=VF t1;obtain⟨sv,r2⟩:=VJ t2;have e1:=r1.len;have e2:=r2.len;subst e1;subst e2;exact⟨⟨⟨ph,sg,tol,rf,er,st,sv⟩,ps,cs',pv,cv⟩,rfl,r1,r2⟩)
theorem VI {p:Option Addr} {n cap:Nat} {d:DataW H} {ps:List MemPlace} (h:DataW.Trod enc Tryz.prog w 0 (fun _=>true) true 23 (.slice p n cap) d ps) :
  ∃ l:List iT,aR lkC 9 w p n cap l/\∀ x∈l,aR chC 3 w x.p x.l.ch.length x.c x.l.ch:=
 nW lkC 9 QW (by decide) _ Tryz.underlying23 (by kernel_rfl) h (fun fuel cs x hx=>by
  have hs:=Tryz.underlying81;obtain⟨v0,v1,v2,v3,v4,v5,v6,v7,v8,rfl⟩:=list9 ((II hs hx).trans (by kernel_rfl));obtain⟨n0,y0,g0⟩:=dH hs hx 0 3 0 1 (by kernel_rfl);obtain⟨n1,y1,g1⟩:=dH hs hx 1 3 1 1 (by kernel_rfl);obtain⟨n2,y2,g2⟩:=dH hs hx 2 79 2 7 (by kernel_rfl);have ho:=Tryz.underlying79;obtain⟨n3,y3,g3⟩:=dH ho g2 0 76 0 2 (by kernel_rfl);obtain⟨n4,y4,g4⟩:=dH ho g2 1 76 2 2 (by kernel_rfl);obtain⟨n5,y5,g5⟩:=dH ho g2 2 3 4 1 (by kernel_rfl);obtain⟨n6,y6,g6⟩:=dH ho g2 3 25 5 1 (by kernel_rfl);obtain⟨n7,y7,g7⟩:=dH ho g2 4 77 6 1 (by kernel_rfl);obtain⟨A,rfl,_⟩:=fM Tryz.underlying3 g0;obtain⟨B,rfl,_⟩:=fM Tryz.underlying3 g1;obtain⟨d0,d1,q0,q1⟩:=RV g3;obtain⟨e0,e1,q2,q3⟩:=RV g4;subst q0;subst q1;subst q2;subst q3;obtain⟨lo,rfl,_⟩:=fM Tryz.underlying3 g5;obtain⟨sd,rfl,_⟩:=fM Tryz.underlying25 g6;obtain⟨pc,nc,cc,rfl,t1⟩:=mV Tryz.underlying77 g7;obtain⟨ch,r1⟩:=VN t1;have e2:=r1.len;subst e2;exact⟨⟨⟨A,B,d0,d1,e0,e1,lo,sd,ch⟩,pc,cc⟩,rfl,r1⟩)
theorem WI {r:Reach} {b0:Nat} {v:Value} {d:DataW H} {p:List MemPlace} (hv:Value.okWide Tryz.prog w r b0 27 v) (h:DataW.Trod enc Tryz.prog w 0 (fun _=>true) true 27 v d p):∃ s:dU,v=fG s/\s.Ok0 w:=by
 have hs:=Tryz.underlying27;obtain⟨cs,rfl,hsz⟩:=okWide_struct hs hv;obtain⟨fuel,hx⟩:=h;have hx:DataW.trod enc Tryz.prog w 0 (fun _=>true) true fuel 27 cs.toList=some (d,p):=hx;obtain⟨v0,v1,v2,v3,v4,hcs⟩:=list5 ((II hs hx).trans (by kernel_rfl));rw[hcs] at hx;obtain⟨n0,y0,g0⟩:=dH hs hx 0 22 0 1 (by kernel_rfl);obtain⟨n1,y1,g1⟩:=dH hs hx 1 23 1 1 (by kernel_rfl);obtain⟨n2,y2,g2⟩:=dH hs hx 2 24 2 1 (by kernel_rfl);obtain⟨n3,y3,g3⟩:=dH hs hx 3 3 3 1 (by kernel_rfl);obtain⟨n4,y4,g4⟩:=dH hs hx 4 25 4 1 (by kernel_rfl);obtain⟨pn,ln,cn,rfl,t0⟩:=mV Tryz.underlying22 g0;obtain⟨pl,ll,cl,rfl,t1⟩:=mV Tryz.underlying23 g1;obtain⟨pf,lf,cf,rfl,t2⟩:=mV Tryz.underlying24 g2;obtain⟨un,rfl,_⟩:=fM Tryz.underlying3 g3;obtain⟨sd,rfl,_⟩:=fM Tryz.underlying25 g4;obtain⟨nd,r0,q0⟩:=VG t0;obtain⟨lk,r1,q1⟩:=VI t1;obtain⟨ft,r2⟩:=VK t2;have e0:=r0.len;have e1:=r1.len;have e2:=r2.len;subst e0;subst e1;subst e2;refine⟨⟨nd,lk,ft,un,sd,pn,cn,pl,cl,pf,cf⟩,?_,⟨r0,r1,r2,q0,q1⟩⟩;unfold fG;congr 1
 exact Array.ext' hcs
end
theorem rnds_of {W:World} (h:W.ShapedOpen Tryz.prog):∃ R,sD W R:=by
 obtain⟨zero,hz⟩:∃ zero,((begin Tryz.prog (fun _ _=>0) default).world.heap[(2:Nat)]?).bind Obj.row? = some (zero,301)/\zero.size=6:=⟨#[.int .u64 0,.int .u64 0,.int .u64 0,.int .u64 0,.int .u64 0,.int .u64 0],by kernel_rfl,rfl⟩;obtain⟨cs,hh,hs,hr⟩:=h.1 2 zero 301 (by decide +kernel) hz.1;obtain⟨ts,hts,_,hall⟩:=hr (by kernel_rfl);have hts2:Tryz.prog.cellTypes Tryz.prog.depth 301=some [232,25,232,25,232,25]:=by kernel_rfl
 rw[hts2] at hts
 cases hts
 rw[hz.2] at hs
 have key:∀ i (hi:i<6),∃ n,cs[i]? = some (.int .u64 n)/\0<=n:=fun i hi=>by
  have h1:i<cs.size:=by omega
  obtain⟨u,hu,hok⟩:=hall i cs[i] (by simp[h1])
  have hu2:Tryz.prog.underlying u=some (.int .u64):=by
   have e:i=0\/i=1\/i=2\/i=3\/i=4\/i=5:=by omega
   have e2:u=232\/u=25:=by
    rcases e with rfl|rfl|rfl|rfl|rfl|rfl
    ·exact .inl (by simpa using hu.symm)
    ·exact .inr (by simpa using hu.symm)
    ·exact .inl (by simpa using hu.symm)
    ·exact .inr (by simpa using hu.symm)
    ·exact .inl (by simpa using hu.symm)
    ·exact .inr (by simpa using hu.symm)
   rcases e2 with rfl|rfl
   ·exact Tryz.underlying232
   ·exact Tryz.underlying25
  unfold Cell.ok at hok;rw[hu2] at hok;rw[Array.getElem?_eq_getElem h1]
  cases hv:cs[i]<;>rw[hv] at hok<;>simp at hok
  case int k' n =>
   obtain⟨rfl,hn⟩:=hok;refine⟨n,rfl,?_⟩;have:=hn.1;simpa [IntKind.min,IntKind.signed] using this
 obtain⟨s0,e0,z0⟩:=key 0 (by omega);obtain⟨m0,e1,_⟩:=key 1 (by omega);obtain⟨s1,e2,z1⟩:=key 2 (by omega);obtain⟨m1,e3,_⟩:=key 3 (by omega);obtain⟨s2,e4,z2⟩:=key 4 (by omega);obtain⟨m2,e5,_⟩:=key 5 (by omega);refine⟨[(s0,m0),(s1,m1),(s2,m2)],s0,m0,s1,m1,s2,m2,rfl,z0,z1,z2,?_⟩;rw[hh];congr 2
 apply Array.ext (by simpa using hs)
 intro i h1 h2;have e:i=0\/i=1\/i=2\/i=3\/i=4\/i=5:=by omega
 rw[Array.getElem?_eq_some_iff] at e0 e1 e2 e3 e4 e5;rcases e with rfl|rfl|rfl|rfl|rfl|rfl
 ·exact e0.2
 ·exact e1.2
 ·exact e2.2
 ·exact e3.2
 ·exact e4.2
 ·exact e5.2
end
section
open Go.Sort
theorem BN {b:Nat}:∀ {L:List fV},b∈GL L->∃ p∈L,p.own=true/\p.b=b
 | q::L,h=>by
  unfold GL at h;split at h
  ·rename_i ho
   rcases List.mem_cons.1 h with rfl|h
   ·exact⟨q,List.mem_cons_self ..,ho,rfl⟩
   ·obtain⟨p,h1,h2,h3⟩:=BN h
    exact⟨p,List.mem_cons_of_mem _ h1,h2,h3⟩
  ·obtain⟨p,h1,h2,h3⟩:=BN h
   exact⟨p,List.mem_cons_of_mem _ h1,h2,h3⟩
theorem Mm.back {w0 w:World} {S:List Nat} {L:List fV} {w':World} (h:Mm w0 S w L) (o:Only (GL L) w w'):Only S w0 w':=h.out.only.trans o fun x hx=>by
 obtain⟨p,h1,h2,rfl⟩:=BN hx;exact h.out.own p h1 h2
end
section
open Go.Sort
end
section
open Go.Sort
theorem run_append_nothing {P:Program} (w:World) (t ty e:TypeId) (i:TypeInfo) (ht:P.underlying t=some (.slice e)) (hi:P.info? e=some i) (p:Option Addr) (n cap:Nat) (h:n<=cap) :
  (Builtin.append_ #[t,t] ty #[.slice p n cap,.slice none 0 0]).run P w=.ok (.slice p n cap) w:=by
 cases p with
 | none=>simp[Builtin.append_,run_underlying ht,sizeOf,typeInfo,hi,Builtin.lenOf,h,Builtin.firstCells]
 | some a=>simp[Builtin.append_,run_underlying ht,sizeOf,typeInfo,hi,Builtin.lenOf,h,Builtin.firstCells,storeCells]
theorem sQ {α:Type} {P:Program} {w:World} {ops:Array Oper} {rest:List Oper} {o:Oper} {a:Act} {Q:Exit->Act->World->Prop} (hgd:o.guard=none) (sO xO:Operand) (t:TypeId)
  (ho:o.op=.call { callee:=.builtin .append,args:=#[sO,xO],argTypes:=#[t,t] })
  (e:TypeId) (z:Value) (size bytes B:Nat) (ht:P.underlying t=some (.slice e)) (hi:(P.info? e).map (fun i=>(i.zero,i.size,i.bytes))=some (some z,size,bytes)) (hzs:z.cells.size=size) (hsz:0<size)
  (enc:α->List Value) (hs:∀ x,(enc x).length=size) (h1c:∀ x,∀ u∈enc x,u.oneCell'=true) (l:List α) (v:Value) (hv:a.eval sO=v) (hown:Own enc e size B w v l)
  (p:Option Addr) (n cap:Nat) (l2:List α) (hx:a.eval xO=.slice p n cap) (hrow:aR enc size w p n cap l2)
  (hlen:l.length+l2.length<=maxLen) (hby:(l.length+l2.length)*bytes<=140737488355328) (hB:B<=w.heap.size)
  (hK:∀ v' w',Own enc e size B w' v' (l ++ l2)->(∀ k∈v'.ownBlock.toList,k∈v.ownBlock.toList\/w.heap.size<=k)->Only v.ownBlock.toList w w'->wpList P ops Q rest (a.put o.dst v') w'):wpList P ops Q (o::rest) a w:=by
 cases hi':P.info? e with
 | none=>rw[hi'] at hi;simp at hi
 | some i =>
  rw[hi'] at hi;simp only[Option.map_some,Option.some.injEq,Prod.mk.injEq] at hi;obtain⟨z1,z2,z3⟩:=hi;have hn:=hrow.len;subst hn
  cases p with
  | none =>
   have hc:=hrow.nil rfl;have hle:=hrow.le;have h0:l2=[]:=List.eq_nil_of_length_eq_zero (by omega);subst h0;subst hc
   obtain⟨q,m,c,rfl,hmc⟩:∃ q m c,v=.slice q m c/\m<=c:=by
    rcases hown with ⟨rfl,rfl⟩|⟨g,cap,rfl,_,h3⟩
    ·exact⟨none,0,0,rfl,Nat.le_refl _⟩
    ·obtain⟨_,_,_,h5,_⟩:=h3
     exact⟨_,_,_,rfl,h5⟩
   have hr:=run_append_nothing (P:=P) w t o.type e i ht hi' q m c hmc;refine wpList_plain hgd fun K hK'=>?_;unfold Oper.wp execOp;simp only[List.length_nil] at hx;simp only[ho,resolve,invoke,builtin,Sem.run_bind,Sem.run_pure,Result.andThen_ok,List.map_toArray,map_cons,map_nil,hv,hx,hr];exact hK' _ _ (hK _ _ (by rw[List.append_nil];exact hown) (fun k hk=>.inl hk) (Only.refl _ _))
  | some ad =>
   have hblk:w.ownsRow B e size v l.length (l.flatMap enc):=by
    rcases hown with ⟨rfl,rfl⟩|⟨g,cap,rfl,h2,h3⟩
    ·exact⟨by simp,.inl ⟨rfl,rfl⟩⟩
    ·exact h3.owns hs h2
   have hnews:∀ j u,(l2.flatMap enc)[j]? = some u->w.cell? (ad.add j)=some u:=by
    intro j u hj;have hjl:=(List.getElem?_eq_some_iff.1 hj).1;rw[dB enc size hs] at hjl;have hq:j / size<l2.length:=Nat.div_lt_of_lt_mul (by rw[Nat.mul_comm];exact hjl);have hd:j=j / size*size+j % size:=by rw[Nat.mul_comm];exact (Nat.div_add_mod j size).symm
    obtain⟨b,off,hp,-,hcell⟩:=hrow.cell (j / size) l2[j / size] (getElem?_eq_getElem hq)
    cases hp
    have h1:=flat_get enc size hs l2 (j / size) (j % size) l2[j / size] (getElem?_eq_getElem hq) (Nat.mod_lt _ hsz);rw[<-hd,hj] at h1;have h2:=hcell (j % size) u h1.symm;rw[<-hd] at h2;rw[addr_add];exact h2
   obtain⟨v',w',hr,k1,k2,-,k3⟩:=run_append_own_at (P:=P) w B t o.type e i z size bytes ht hi' z1 z2 z3 hzs hsz v l.length (l.flatMap enc) hblk ad l2.length cap (l2.flatMap enc) (by rw[dB enc size hs]) hnews (fun u hu=>by
    obtain⟨x,-,hxu⟩:=List.mem_flatMap.1 hu;exact h1c x u hxu) hlen hby hB
   have hown':Own enc e size B w' v' (l ++ l2):=by
    rw[<-List.flatMap_append] at k1;rcases k1.2 with ⟨rfl,h0⟩|⟨g,c,cur,rfl,hbg,hg,hnc,hcm,hcs,htk⟩
    ·refine .inl ⟨rfl,List.eq_nil_of_length_eq_zero (by rw[length_append];exact h0)⟩
    ·exact .inr ⟨g,c,by rw[length_append],hbg,cur,hg,hcs,by rw[length_append];exact hnc,hcm,by rw[length_append];exact htk⟩
   refine wpList_plain hgd fun K hK'=>?_;unfold Oper.wp execOp;simp only[ho,resolve,invoke,builtin,Sem.run_bind,Sem.run_pure,Result.andThen_ok,List.map_toArray,map_cons,map_nil,hv,hx,hr];exact hK' _ _ (hK _ _ hown' (fun k hk=>by rcases k3 with q|q<;>rw[q] at hk;exact .inl hk;exact .inr (by simp at hk;omega)) ((Only.refl _ w).grown k2 (by intro k hk;left;rw[hk];simp)))
end
section
open Go.Sort
theorem yR {P:Program} {w0 w W:World} {S:List Nat} {L:List fV} {Q:Exit->Act->World->Prop} {l:List Oper} {TL:List Nat} {f:Nat} {listed:Array Bool} {a:Act} (rs:List Nat) [m:Mm w0 S w L] (hC:Only [] W w) (h:∀ w1,Only [] w w1->Mm w0 S w1 L->Facts w1 L->∀ i∈rs,wpOp P l.toArray (aY (oK Q)) i (fun a' w'=>Yg P l Q TL W f (listed.setIfInBounds i true) a' w') a w1) (hr:Region.ready .any l.toArray listed=rs:=by decide +kernel) (hne:rs.isEmpty=false:=by rfl):Yg P l Q TL W (f+1) listed a w:=yM rs hr hne (.inr hC) h
theorem Mm.tl {w0 w:World} {S:List Nat} {p:fV} {L:List fV} (h:Mm w0 S w (p::L)):Mm w0 S w L:=⟨⟨h.out.only,h.out.got.2,(List.pairwise_cons.1 h.out.nd).2,fun q hq=>h.out.own q (List.mem_cons_of_mem _ hq)⟩⟩
theorem Own.FH {α:Type} {enc:α->List Value} {e:TypeId} {s B:Nat} {w:World} {v:Value} {l:List α} (h:Own enc e s B w v l):∀ x∈v.ownBlock.toList,B<=x/\x<w.heap.size:=by
 intro x hx;rcases h with ⟨rfl,-⟩|⟨g,cap,rfl,h2,h3⟩
 ·simp[Value.ownBlock] at hx
 ·simp only[Value.ownBlock,Option.toList_some,List.mem_singleton] at hx
  subst hx;exact⟨h2,h3.lt⟩
theorem row_one {α:Type} {enc:α->List Value} {e:TypeId} {s:Nat} (hs:∀ x,(enc x).length=s) {w:World} {b:Nat} {x:α} (h:w.heap[b]? = some (.cells (enc x).toArray e (0,0))):aR enc s w (some ⟨b,0,none⟩) 1 1 [x]:=
 aS.dI (e:=e) hs ⟨_,h,by simp[hs],Nat.le_refl _,by unfold maxLen;omega,by have:=hs x;simp[<-this]⟩ rfl
end
section
open Go.Sort
def icF (s:eG) (n:Int):Bool:=decide (0<=n/\n<s.nd.length) && tO (bQ s n)
theorem pIsCl {w:World} (s:dU) (hv:aR ndC 7 w s.pn s.nd.length s.cn s.nd) (n:Int) :
  Calls Tryz.prog 50 #[fG s,.int .i64 n] w fun e w'=>e=.returned (.bool (icF s.sc n))/\Only [] w w':=by
 obtain⟨res,HE⟩:∃ r,Hid (icF s.sc n=r):=⟨_,Lib.hid rfl⟩;rw[HE.out];have hE:=HE.out;unfold icF at hE;have hnl:s.sc.nd.length=s.nd.length:=by unfold dU.sc;simp
 rw[hnl] at hE;have HV:=Lib.hid hv;unfold fG;clear HE hnl hv;by_cases h0:0<=n
 focus
  by_cases h1:n<s.nd.length
  focus
   rw[decide_eq_true ⟨h0,h1⟩,Bool.true_and] at hE;obtain⟨i,rfl⟩:=Int.eq_ofNat_of_zero_le h0;have hi:i<s.nd.length:=by omega
   rw[fB] at hE;obtain⟨bk,off,hpn,-⟩:=HV.out.nd (Only.refl [] w) hi
   have HX:=Lib.hid (show ∀ w',Only [] w w'->bk<w'.heap.size/\w'.cell? ⟨bk,off+i*7+3,none⟩=some (.bool (s.nd.getD i bC).n.rf)/\w'.cell? ⟨bk,off+i*7+6,none⟩=some (.slice (s.nd.getD i bC).pv (s.nd.getD i bC).n.sv.length (s.nd.getD i bC).cv) from fun w' o=>by
    obtain⟨b',o',e,c1,-,-,-,c5,-,-,c8⟩:=HV.out.nd o hi;rw[hpn] at e
    cases e
    exact⟨c1,c5,c8⟩)
   rw[hpn];unfold tO at hE;have d0:decide ((i:Int) >= 0)=true:=dW (by omega);have d1:decide ((i:Int)<(s.nd.length:Int))=true:=dW h1;generalize (s.nd.getD i bC)=x at HX hE;obtain⟨⟨n1,n2,n3,n4,n5,n6,n7⟩,ps,cs,pv,cv⟩:=x;dsimp only at HX hE;generalize n7.length=l at HX hE;have h:decide (0<(l:Int))=decide (0<l):=by rw[Bool.eq_iff_iff];simp
   have HE:=Lib.hid hE;clear hE h0 hpn HV;obtain⟨wo,hwo⟩:∃ wo:World,wo=w:=⟨_,rfl⟩;subst hwo
   cases n4 <;>
   ·have m:=bJ wo [];have k:=m.out.k;have c:=HX.out wo (Only.refl _ _)
    go_enter Tryz.func50,Tryz.ntmps50
    go_wp2_with (first|((with_reducible first|refine cU ?_|refine wU ?_);clear k m c;intro w m k;have c:=HX.out w m.out.only)|((with_reducible refine lE (fun w o g k K hK=>⟨rfl,?_⟩));simp[results,Tryz.results50,go_sem];refine hK _ ?_;exact⟨by rw[<-HE.out];simp[h],o⟩))
  rotate_left
  rw[dD (by omega),Bool.false_and] at hE;have d1:decide (n<(s.nd.length:Int))=false:=dD h1;subst hE;clear HV h0 h1
 rotate_left
 focus
  rw[dD (by omega),Bool.false_and] at hE;have d0:decide (0<=n)=false:=dD h0;subst hE;clear HV h0
 rotate_left
 all_goals
  have m:=bJ w [];have k:=m.out.k;go_enter Tryz.func50,Tryz.ntmps50
  go_wp2_with (first|((with_reducible first|refine cU ?_|refine wU ?_);clear k m;intro w m k)|((with_reducible refine lE (fun w o g k K hK=>⟨rfl,?_⟩));simp[results,Tryz.results50,go_sem];refine hK _ ?_;exact⟨rfl,o⟩))
def MF (n:Int):Bool:=decide (-4503599627370496<=n/\n<=4503599627370496)
theorem BF (n:Int) (w:World) :
  Calls Tryz.prog 51 #[.int .i64 n] w fun e w'=>e=.returned (.bool (MF n))/\Only [] w w':=by
 unfold MF;obtain⟨r,hr⟩:∃ r,decide (-4503599627370496<=n/\n<=4503599627370496)=r:=⟨_,rfl⟩;rw[hr];have HE:=Lib.hid hr;clear hr;have m:=bJ w [];have k:=m.out.k;go_enter Tryz.func51,Tryz.ntmps51
 go_wp2_with (first|((with_reducible refine wU ?_);clear k m;intro w m k)|((with_reducible refine lE (fun w o g k K hK=>⟨rfl,?_⟩));simp[results,Tryz.results51,go_sem];refine hK _ ?_;exact⟨by rw[<-HE.out];grind,o⟩))
end
section
open Go.Sort
open Go.Lib (hid)
def vOk (s:eG) (la:Int) (x:lI):Bool:=icF s x.nd && !decide (x.at_<la) && !decide (s.un<x.at_) && MF x.raw && MF x.clk && bM ⟨x.lo,x.hi⟩
def zZ (s:eG):Int->List lI->Bool
 | _,[]=>true
 | la,x::r=>vOk s la x && zZ s x.at_ r
def pX (s:eG) (l:List lI):Bool:=decide (l.length<=400) && zZ s 0 l
theorem QD {w:World} (s:dU) (hv:aR ndC 7 w s.pn s.nd.length s.cn s.nd) {l:List lI} {p:Option Addr} {cp:Nat} (ha:aR rQ 9 w p l.length cp l) :
  Calls Tryz.prog 29 #[fG s,.slice p l.length cp] w fun e w'=>e=.returned (.bool (pX s.sc l))/\Only [] w w':=by
 have HA:=hid ha;have HIC:=hid (fun n w' (o:Only [] w w')=>pIsCl s (hv.kept o) n);have hlen:l.length<=maxLen:=Nat.le_trans ha.le ha.cm;clear ha hv;obtain⟨res,HE⟩:∃ r,Hid (pX s.sc l=r):=⟨_,hid rfl⟩;rw[HE.out];unfold fG at *;obtain⟨wo,hwo⟩:∃ wo:World,wo=w:=⟨_,rfl⟩;subst hwo;have m:=bJ wo [];have k:=m.out.k;by_cases h4:400<l.length
 ·have d0:decide ((400:Int)<(l.length:Int))=true:=dW (by omega)
  have hE:=HE.out;unfold pX at hE;rw[dD (by omega),Bool.false_and] at hE;subst hE;go_enter Tryz.func29,Tryz.ntmps29
  go_wp2_with (first|((with_reducible first|refine cU ?_|refine wU ?_);clear k m;intro w m k)|((with_reducible refine lE (fun w o g k K hK=>⟨rfl,?_⟩));simp[results,Tryz.results29,go_sem];refine hK _ ?_;exact⟨rfl,o⟩))
 have d0:decide ((400:Int)<(l.length:Int))=false:=dD (by omega);have hE:=HE.out;unfold pX at hE;rw[dW (by omega),Bool.true_and] at hE;replace HE:=hid hE;clear hE;go_enter Tryz.func29,Tryz.ntmps29
 go_wp2_with ((with_reducible first|refine cU ?_|refine wU ?_);clear k m;intro w m k)
 have OB:=hid m.out.only;have hbx:=gB (w:=w) (b:=wo.heap.size);clear d0 k m;obtain⟨bs,hbs⟩:∃ b,b=wo.heap.size:=⟨_,rfl⟩;rw[<-hbs] at hbx |-;have HBX:=hid hbx;clear hbx hbs;obtain⟨wl,hwl⟩:∃ wl:World,wl=w:=⟨_,rfl⟩;subst hwl;go_loopw [5,13] (fun va vi wr=>∃ (i:Nat) (la:Int),i<=l.length/\vi=.int .i64 i/\va=.int .i64 la/\zZ s.sc la (l.drop i)=res/\Only [] wl wr) (fun va vi _=>l.length-(intOf vi).toNat)
 case atStart=>exact⟨0,0,Nat.zero_le _,rfl,rfl,HE.out,Only.refl _ _⟩
 case round =>
  obtain⟨i,la,hi,rfl,rfl,hv,ho⟩:=hrel;have O1:=hid ho;have OO:=hid (OB.out.aA ho);have hb:=ho.got HBX.out (by simp);clear ho HE;by_cases hlt:i<l.length
  ·have hlt2:decide ((i:Int)<(l.length:Int))=true:=dW (by omega)
   have hlt3:(i:Int)<(l.length:Int):=by omega
   have ei:IntKind.i64.wrap ((i:Int)+1)=((i+1:Nat):Int):=by unfold maxLen at hlen;rw[IntKind.wrap_i64];omega
   obtain⟨bk,off,rfl,-⟩:=HA.out.I8 (Only.refl [] wo) hlt;rw[List.drop_eq_getElem_cons hlt] at hv;obtain⟨x,hx⟩:∃ x,l[i]=x:=⟨_,rfl⟩
   have HX:=hid (show ∀ w',Only [] wr w'->bk<w'.heap.size/\w'.cell? ⟨bk,off+i*9,none⟩=some (.int .i64 x.at_)/\w'.cell? ⟨bk,off+i*9+1,none⟩=some (.int .i64 x.nd)/\w'.cell? ⟨bk,off+i*9+2,none⟩=some (.int .i64 x.raw)/\w'.cell? ⟨bk,off+i*9+3,none⟩=some (.int .i64 x.clk)/\w'.cell? ⟨bk,off+i*9+4,none⟩=some (.int .i64 x.stp)/\w'.cell? ⟨bk,off+i*9+5,none⟩=some (.int .i64 x.lo)/\w'.cell? ⟨bk,off+i*9+6,none⟩=some (.int .i64 x.hi)/\w'.cell? ⟨bk,off+i*9+7,none⟩=some (.int .i64 x.kd)/\w'.cell? ⟨bk,off+i*9+8,none⟩=some (.int .i64 x.vl) from fun w' o=>by
    obtain⟨b',o',e,q⟩:=HA.out.I8 (OO.out.aA o) hlt
    cases e
    rw[hx] at q;exact q)
   rw[hx] at hv;clear hx;obtain⟨x0,x1,x2,x3,x4,x5,x6,x7,x8⟩:=x;unfold zZ vOk at hv;dsimp only at hv HX;have HC1:=hid (fun w' (o:Only [] wr w')=>HIC.out x1 w' (OO.out.aA o));have HC2:=hid (fun w'=>BF x2 w');have HC3:=hid (fun w'=>BF x3 w');have HC4:=hid (fun w'=>cB ⟨x5,x6⟩ w');unfold dV at HC4;dsimp only at HC4;rw[show s.sc.un=s.un from rfl] at hv;generalize icF s.sc x1=b1 at HC1 hv;generalize MF x2=b2 at HC2 hv;generalize MF x3=b3 at HC3 hv;generalize bM ⟨x5,x6⟩=b6 at HC4 hv;obtain⟨n4,d4⟩:∃ n,decide (x0<la)=n:=⟨_,rfl⟩;obtain⟨n5,d5⟩:∃ n,decide (s.un<x0)=n:=⟨_,rfl⟩;rw[d4,d5] at hv
   cases b1
   rotate_left 1
   focus
    cases n4
    focus
     cases n5
     focus
      cases b2
      rotate_left 1
      focus
       cases b3
       rotate_left 1
       focus
        cases b6
        rotate_left 1
     rotate_left 4
    rotate_left 5
   all_goals
    simp only[Bool.true_and,Bool.false_and,Bool.not_true,Bool.not_false,Bool.and_false,Bool.and_true] at hv
    (try simp only[if_true,if_false,Bool.false_eq_true] at HC4)
    have HV:=hid hv;clear hv;have m:=jZ hb;have k:=m.out.k;have c:=HX.out wr (Only.refl _ _);clear hb;go_wp2_with (first|((with_reducible first|refine cM (HC1.out _ gO) ?_|refine cM (HC2.out _) ?_|refine cM (HC3.out _) ?_|refine cM (HC4.out _) ?_|refine cU ?_|refine wU ?_);clear k m c;intro w m k;have c:=HX.out w m.out.only)|((with_reducible refine lE (fun w o g k K hK=>⟨rfl,?_⟩));simp[results,Tryz.results29,go_sem];refine hK _ ?_;exact⟨by rw[<-HV.out],OO.out.aA o⟩)|(go_roundw;(case rel=>exact⟨i+1,x0,by omega,by go_num,rfl,HV.out,O1.out.trans gO (by simp)⟩);(case measure=>first|(simp[intOf];done)|(simp[intOf];omega))))
  ·obtain rfl:i=l.length:=by omega
   have hlt2:decide ((l.length:Int)<(l.length:Int))=false:=by simp
   rw[List.drop_length] at hv;unfold zZ at hv;subst hv;have m:=jZ hb;have k:=m.out.k;clear hb;go_wp2_with (first|((with_reducible first|refine cU ?_|refine wU ?_);clear k m;intro w m k)|((with_reducible refine lE (fun w o g k K hK=>⟨rfl,?_⟩));simp[results,Tryz.results29,go_sem];refine hK _ ?_;exact⟨rfl,OO.out.aA o⟩))
end
section
open Go.Sort
open Go.Lib (hid)
def LV (s:eG) (l:List lI) (n:Int):Int:=if qQ s=0 then (if pX s l=true then (if icF s n=true then 0 else 3) else 2) else qQ s
theorem QC {w:World} (s:dU) (hs:s.Ok w) {l:List lI} {p:Option Addr} {cp:Nat} (ha:aR rQ 9 w p l.length cp l) (hl:l.length<=1000000) (n:Int) :
  Calls Tryz.prog 33 #[fG s,.slice p l.length cp,.int .i64 n] w fun e w'=>∃ v,e=.returned (.tuple #[v,.int .i64 (LV s.sc l n)])/\Own rQ 41 9 w.heap.size w' v (if LV s.sc l n=0 then l.filter (fun x=>x.nd == n) else [])/\Only [] w w':=by
 have HA:=hid ha;have HCK:=hid (fun w' (o:Only [] w w')=>WU s (hs.kept o));have HVL:=hid (fun w' (o:Only [] w w')=>QD s (hs.nd.kept o) (ha.kept o));have HIC:=hid (fun w' (o:Only [] w w')=>pIsCl s (hs.nd.kept o) n);clear ha hs;obtain⟨e,he⟩:∃ e,LV s.sc l n=e:=⟨_,rfl⟩;rw[he];unfold LV at he;unfold fG at *;generalize qQ s.sc=c0 at HCK he;generalize pX s.sc l=b1 at HVL he;generalize icF s.sc n=b2 at HIC he;obtain⟨wo,hwo⟩:∃ wo:World,wo=w:=⟨_,rfl⟩;subst hwo;have m:=bJ wo [];have k:=m.out.k;by_cases h0:c0=0
 focus
  rw[if_pos h0] at he;subst h0
  cases b1
  focus
   rw[if_neg (by decide)] at he;subst he;rw[if_neg (by decide)];go_enter Tryz.func33,Tryz.ntmps33
   go_wp2_with (first|((with_reducible first|refine cM (HCK.out _ gO) ?_|refine cM (HVL.out _ gO) ?_|refine cM (HIC.out _ gO) ?_|refine cU ?_|refine wU ?_);clear k m;intro w m k)|((with_reducible refine lE (fun w o g k K hK=>⟨rfl,?_⟩));simp[results,Tryz.results33,go_sem];refine hK _ ?_;exact⟨_,rfl,bU _ _,o⟩))
  cases b2
  focus
   rw[if_pos rfl,if_neg (by decide)] at he;subst he;rw[if_neg (by decide)];go_enter Tryz.func33,Tryz.ntmps33
   go_wp2_with (first|((with_reducible first|refine cM (HCK.out _ gO) ?_|refine cM (HVL.out _ gO) ?_|refine cM (HIC.out _ gO) ?_|refine cU ?_|refine wU ?_);clear k m;intro w m k)|((with_reducible refine lE (fun w o g k K hK=>⟨rfl,?_⟩));simp[results,Tryz.results33,go_sem];refine hK _ ?_;exact⟨_,rfl,bU _ _,o⟩))
  rw[if_pos rfl,if_pos rfl] at he;subst he;rw[if_pos rfl];go_enter Tryz.func33,Tryz.ntmps33
  go_wp2_with ((with_reducible first|refine cM (HCK.out _ gO) ?_|refine cM (HVL.out _ gO) ?_|refine cM (HIC.out _ gO) ?_|refine cU ?_|refine wU ?_);clear k m;intro w m k)
  have OB:=hid m.out.only;clear k m HCK HVL HIC;obtain⟨wl,hwl⟩:∃ wl:World,wl=w:=⟨_,rfl⟩;subst hwl;go_loopw [9,29] (fun va vi wr=>∃ i:Nat,i<=l.length/\vi=.int .i64 i/\Own rQ 41 9 wl.heap.size wr va ((l.take i).filter (fun x=>x.nd == n))/\Only [] wl wr) (fun va vi _=>l.length-(intOf vi).toNat)
  case atStart=>exact⟨0,Nat.zero_le _,rfl,bU _ _,Only.refl _ _⟩
  case round =>
   obtain⟨i,hi,rfl,hown,ho⟩:=hrel;have O1:=hid ho;have OO:=hid (OB.out.aA ho);have OW:=hid hown;obtain⟨pv,cv,rfl,-⟩:=hown.dI iQ;clear ho hown;by_cases hlt:i<l.length
   ·have hlt2:decide ((i:Int)<(l.length:Int))=true:=dW (by omega)
    have hlt3:(i:Int)<(l.length:Int):=by omega
    have ei:IntKind.i64.wrap ((i:Int)+1)=((i+1:Nat):Int):=by rw[IntKind.wrap_i64];omega
    obtain⟨bk,off,rfl,-⟩:=HA.out.I8 (Only.refl [] wo) hlt;obtain⟨x,hx⟩:∃ x,l[i]=x:=⟨_,rfl⟩
    have HX:=hid (show ∀ w',Only [] wr w'->bk<w'.heap.size/\w'.cell? ⟨bk,off+i*9,none⟩=some (.int .i64 x.at_)/\w'.cell? ⟨bk,off+i*9+1,none⟩=some (.int .i64 x.nd)/\w'.cell? ⟨bk,off+i*9+2,none⟩=some (.int .i64 x.raw)/\w'.cell? ⟨bk,off+i*9+3,none⟩=some (.int .i64 x.clk)/\w'.cell? ⟨bk,off+i*9+4,none⟩=some (.int .i64 x.stp)/\w'.cell? ⟨bk,off+i*9+5,none⟩=some (.int .i64 x.lo)/\w'.cell? ⟨bk,off+i*9+6,none⟩=some (.int .i64 x.hi)/\w'.cell? ⟨bk,off+i*9+7,none⟩=some (.int .i64 x.kd)/\w'.cell? ⟨bk,off+i*9+8,none⟩=some (.int .i64 x.vl) from fun w' o=>by
     obtain⟨b',o',e,q⟩:=HA.out.I8 (OO.out.aA o) hlt
     cases e
     rw[hx] at q;exact q)
    have HT:=hid (show (l.take (i+1)).filter (fun x=>x.nd == n)=(l.take i).filter (fun x=>x.nd == n) ++ (if x.nd=n then [x] else []) by
     rw[eH l hlt,List.filter_append,hx];congr 1
     by_cases h:x.nd=n
     ·rw[if_pos h];simp[h]
     ·rw[if_neg h];simp[h])
    have hal:((l.take i).filter (fun x=>x.nd == n)).length<=i:=Nat.le_trans (List.length_filter_le ..) (by rw[List.length_take];omega);generalize (l.take i).filter (fun x=>x.nd == n)=acc at OW HT hal;clear hx;obtain⟨x0,x1,x2,x3,x4,x5,x6,x7,x8⟩:=x;dsimp only at HX HT;have m:=bJ wr [];have k:=m.out.k;have c:=HX.out wr (Only.refl _ _);by_cases hn:x1=n
    ·rw[if_pos hn] at HT
     have dn:(x1 == n)=true:=by simpa using hn
     clear hn;go_wp2_with (first|((with_reducible first|refine cU ?_|refine wU ?_);clear k m c;intro w m k;have c:=HX.out w m.out.only)|(at_builtin;refine aV ?_))
     refine aF (G:=fun w0=>Stop (wpList _ _ _ _ _ w0)) ?_;intro w5 hb5 ho5 hs5;rw[World.size_alloc] at hb5;have B5:=hid hb5;have O5:=hid ((O1.out.aA ((Only.refl [] wr).alloc _)).aA ho5);have R5:=hid (OW.out.kept (((Only.refl [] wr).alloc _).aA ho5));clear hb5 ho5 hs5 m k c;refine bD ?_;refine dF (B:=wl.heap.size) rfl _ _ 34 rfl 41 (.agg #[.int .i64 0,.int .i64 0,.int .i64 0,.int .i64 0,.int .i64 0,.int .i64 0,.int .i64 0,.int .i64 0,.int .i64 0]) 9 72 Tryz.underlying34 (by kernel_rfl) rfl (by decide) rQ iQ QU acc _ rfl R5.out _ ⟨x0,x1,x2,x3,x4,x5,x6,x7,x8⟩ rfl (fun j u hj=>by rw[aB B5.out,<-hj];simp[rQ]) (by simp[maxLen];omega) (by omega) O5.out.size ?_;intro v6 w6 hown6 hk6 ho6;have W6:=hid hown6;have O6:=hid (O5.out.trans ho6 fun x hx=>.inr (R5.out.FH x hx).1);clear hown6 hk6 ho6;go_wp2;go_roundw
     case rel=>exact⟨i+1,by omega,by go_num,(by rw[HT.out];exact W6.out),O6.out⟩
     case measure=>first|(simp[intOf];done)|(simp[intOf];omega)
    ·rw[if_neg hn,List.append_nil] at HT
     have dn:(x1 == n)=false:=by simpa using hn
     clear hn;go_wp2_with (first|((with_reducible first|refine cU ?_|refine wU ?_);clear k m c;intro w m k;have c:=HX.out w m.out.only)|(go_roundw;(case rel=>exact⟨i+1,by omega,by go_num,(by rw[HT.out];exact OW.out.kept gO),O1.out.aA gO⟩);(case measure=>first|(simp[intOf];done)|(simp[intOf];omega))))
   ·obtain rfl:i=l.length:=by omega
    have hlt2:decide ((l.length:Int)<(l.length:Int))=false:=by simp
    rw[List.take_length] at OW;have m:=bJ wr [];have k:=m.out.k;go_wp2_with (first|((with_reducible first|refine cU ?_|refine wU ?_);clear k m;intro w m k)|((with_reducible refine lE (fun w o g k K hK=>⟨rfl,?_⟩));simp[results,Tryz.results33,go_sem];refine hK _ ?_;exact⟨_,rfl,(OW.out.kept o).lower OB.out.size,OO.out.aA o⟩))
 rotate_left 0
 focus
  rw[if_neg h0] at he;subst he;have d0:(c0 != 0)=true:=by simpa using h0
  rw[if_neg h0];clear h0;go_enter Tryz.func33,Tryz.ntmps33
  go_wp2_with (first|((with_reducible first|refine cM (HCK.out _ gO) ?_|refine cU ?_|refine wU ?_);clear k m;intro w m k)|((with_reducible refine lE (fun w o g k K hK=>⟨rfl,?_⟩));simp[results,Tryz.results33,go_sem];refine hK _ ?_;exact⟨_,rfl,bU _ _,o⟩))
end
end Go.Proofs.YtppjhbjmfkiejaaGreat
