/- The acts of the law; short; wide structs; what holds before each act. Conditions: those named in each theorem. -/
import Derived.Test.YtedgpfgccpnjnaaGreatFJm
import Derived.Deep.MidRow
import Derived.Laws.MakeOwn
namespace Go.Proofs.YtedgpfgccpnjnaaGreat
open Go.Lib (hid)
set_option maxRecDepth 100000
set_option maxHeartbeats 4000000
open Go.RowKit Go.Sort
section
variable {P:Program} {w0 w:World} {S:List Nat} {L:List Blk} {Q:Exit→Act→World→Prop}
theorem run_new_row {ty:TypeId} {ti:TypeInfo} {z:Value} (hi:P.info? ty=some ti) (hz:ti.zero=some z) (w:World) :
  (Instr.alloc ty true (.tuple #[])).run P w=.ok (.pointer (some ⟨w.heap.size,0,none⟩)) (w.alloc (.cells z.cells ty)):=by
 unfold Instr.alloc zeroValue typeInfo;simp[go_sem,hi,hz]
theorem wpList_wide {ops:Array Oper} {rest:List Oper} {a:Act} [m:Mm w0 S w L] {ty y1 y2 y3:TypeId} {s1 s2 s3:String} {e1 e2 e3:Array Edge} {x:Operand} {tL tA:Tmp} {b o:Nat} {cs:List Value} {d:TypeDesc}
  (hx:a.eval x=.pointer (some ⟨b,o,none⟩)) (hc:w.rangeAt b o cs) (hu:P.underlying ty=some d) (hd:d.isRow=true)
  (his:(P.info? ty).map (·.size)=some cs.length) (hzs:((P.info? ty).bind (·.zero)).map (·.cells.size)=some cs.length) (h1:cs.all (·.oneCell')=true)
  (hA:∀ p,((a.put (some tL) (.agg cs.toArray)).put (some tA) p).eval (.tmp tA)=p)
  (hL:∀ p,((a.put (some tL) (.agg cs.toArray)).put (some tA) p).eval (.tmp tL)=.agg cs.toArray)
  (hk:∀ w' g,w.heap.size≤g→Mm w0 S w' (⟨g,cs,ty,true⟩::L)→wpList P ops Q rest ((a.put (some tL) (.agg cs.toArray)).put (some tA) (.pointer (some ⟨g,0,none⟩))) w') :
  wpList P ops Q (⟨some tL,.load ty x,y1,s1,e1,none⟩::⟨some tA,.alloc ty,y2,s2,e2,none⟩::⟨none,.store ty (.tmp tA) (.tmp tL),y3,s3,e3,none⟩::rest) a w:=by
 obtain⟨ti,hi⟩:∃ ti,P.info? ty=some ti:=by
  cases h:P.info? ty with
  | none=>rw[h] at his;simp at his
  | some ti=>exact⟨ti,rfl⟩
 obtain⟨z,hz,hzn⟩:∃ z,ti.zero=some z∧z.cells.size=cs.length:=by
  rw[hi] at hzs
  cases h:ti.zero with
  | none=>simp[h] at hzs
  | some z=>exact⟨z,rfl,by simpa [h] using hzs⟩
 refine _root_.Go.wpList_load_mid rfl ty x rfl b o hx cs d hc hu hd his ?_;refine wpList_plain rfl fun K hK=>?_;unfold Oper.wp execOp;simp only[Sem.run_bind,run_new_row hi hz,Result.andThen_ok,Sem.run_pure,Oper.upon_value];refine hK _ _ ?_;have hg:(w.alloc (.cells z.cells ty)).heap[w.heap.size]? = some (.cells z.cells ty (0,0)):=heap_alloc_new ..;refine _root_.Go.wpList_store_row rfl ty _ _ rfl w.heap.size cs.toArray (hA _) (hL _) ty z.cells hg (by rw[his,List.size_toArray]) (by rw[hzn,List.size_toArray]) (by simpa using h1) ?_;have o1:Only [] w (w.alloc (.cells z.cells ty)):=(Only.refl [] w).alloc _;have hg2:=setRow_heap (w.alloc (.cells z.cells ty)) w.heap.size z.cells cs.toArray ty (0,0) hg;have o2:Only [w.heap.size] (w.alloc (.cells z.cells ty)) ((w.alloc (.cells z.cells ty)).setRow w.heap.size cs.toArray):=⟨rfl,rfl,rfl,by simp[World.setRow],fun q _ hq=>setRow_other _ _ q _ (fun e=>hq (by simp[e]))⟩;have m1:Mem w0 S (w.alloc (.cells z.cells ty)) (⟨w.heap.size,z.cells.toList,ty,true⟩::L):=m.out.new (by simpa using hg) (Nat.le_refl _) o1;exact hk _ w.heap.size (Nat.le_refl _) ⟨m1.upd (i:=0) rfl hg2 o2⟩
end
structure Ax where
 kind:Int
 server:Int
 later:Int
 nonce:Int
 head:Np
 iv:Iv
 has:Bool
 good:Bool
def axC (x:Ax):List Value:=[.int .i64 x.kind,.int .i64 x.server,.int .i64 x.later,.int .u64 x.nonce,.int .i64 x.head.leap,.int .i64 x.head.ver,.int .i64 x.head.mode,.int .i64 x.head.strat,.int .i64 x.head.poll,.int .i64 x.head.prec,.int .u32 x.head.rdel,.int .u32 x.head.rdsp,.int .u32 x.head.rid,.int .u64 x.head.ref,.int .u64 x.head.org,.int .u64 x.head.rcv,.int .u64 x.head.xmt,.int .i64 x.iv.lo,.int .i64 x.iv.hi,.bool x.has,.bool x.good]
theorem axC_len (x:Ax):(axC x).length=21:=rfl
abbrev AxF (w:World) (b o:Nat) (x:Ax):Prop:=b<w.heap.size∧w.cell? ⟨b,o,none⟩=some (.int .i64 x.kind)∧w.cell? ⟨b,o+1,none⟩=some (.int .i64 x.server)∧w.cell? ⟨b,o+2,none⟩=some (.int .i64 x.later)∧w.cell? ⟨b,o+3,none⟩=some (.int .u64 x.nonce)∧w.cell? ⟨b,o+4,none⟩=some (.int .i64 x.head.leap)∧w.cell? ⟨b,o+5,none⟩=some (.int .i64 x.head.ver)∧w.cell? ⟨b,o+6,none⟩=some (.int .i64 x.head.mode)∧w.cell? ⟨b,o+7,none⟩=some (.int .i64 x.head.strat)∧w.cell? ⟨b,o+8,none⟩=some (.int .i64 x.head.poll)∧w.cell? ⟨b,o+9,none⟩=some (.int .i64 x.head.prec)∧w.cell? ⟨b,o+10,none⟩=some (.int .u32 x.head.rdel)∧w.cell? ⟨b,o+11,none⟩=some (.int .u32 x.head.rdsp)∧w.cell? ⟨b,o+12,none⟩=some (.int .u32 x.head.rid)∧w.cell? ⟨b,o+13,none⟩=some (.int .u64 x.head.ref)∧w.cell? ⟨b,o+14,none⟩=some (.int .u64 x.head.org)∧w.cell? ⟨b,o+15,none⟩=some (.int .u64 x.head.rcv)∧w.cell? ⟨b,o+16,none⟩=some (.int .u64 x.head.xmt)∧w.cell? ⟨b,o+17,none⟩=some (.int .i64 x.iv.lo)∧w.cell? ⟨b,o+18,none⟩=some (.int .i64 x.iv.hi)∧w.cell? ⟨b,o+19,none⟩=some (.bool x.has)∧w.cell? ⟨b,o+20,none⟩=some (.bool x.good)
def lateOk (x:Ax):Bool:=decide (-1000≤x.later∧x.later≤70368744177664)
def shortC (l:List Ax):Bool:=decide (l.length≤60) && l.all lateOk
theorem pClClock {w:World} {P:Pl} {c:Cl} (h:ClAt w P c) :
  Calls Tryz.prog 42 #[.pointer (some ⟨P.bc,0,none⟩)] w fun e w'=>e=.returned (.agg #[.int .i64 c.ck.raw,.int .i64 c.ck.time,.int .i64 c.ck.ppb,.int .i64 0,.int .i64 0,.int .i64 c.ck.steps])∧Only [] w w':=by
 have hcl:=h.cl;unfold ClB at hcl;have HS:=hid (fun w' (o:Only [] w w')=>pClkState (o.got h.ck (by simp)));clear h;have m:=mmR hcl;have k:=m.out.k;clear hcl;go_enter Tryz.func42,Tryz.ntmps42
 go_wp2_with (first|((with_reducible first|refine cU ?_|refine cM (HS.out _ gO) ?_|refine wU ?_);clear k m;intro w m k)|((with_reducible refine lE (fun w o g k K hK=>⟨rfl,?_⟩));simp[results,Tryz.results42,go_sem,k];refine hK _ ?_;exact⟨rfl,o⟩))
theorem pNewNo (c:Cf) (raw time:Int) (hc:ccheck c≠0) (w:World) :
  Calls Tryz.prog 8 #[cfV c,.int .i64 raw,.int .i64 time] w fun e w'=>e=.returned (.pointer none)∧Only [] w w':=by
 have HK:=hid (pCCheck c);generalize ccheck c=er at hc HK;obtain⟨sr,tl,pr,kp,⟨sk,si,sm,sf,sl⟩,ra,mn,mx⟩:=c;unfold cfV at HK ⊢;dsimp only at HK ⊢;have m:=mm0 w [];have k:=m.out.k;go_enter Tryz.func8,Tryz.ntmps8
 go_wp2_with (first|((with_reducible first|refine cU ?_|refine cM (HK.out _) ?_|refine wU ?_);clear k m;intro w m k)|((with_reducible refine lE (fun w o g k K hK=>⟨rfl,?_⟩));simp[results,Tryz.results8,go_sem];refine hK _ ?_;exact⟨rfl,o⟩))
theorem VRow.rng {w:World} {p:Option Addr} {n cap:Nat} {l:List Ax} (hv:VRow axC 21 w p n cap l) {k:Nat} (hk:k<l.length):∃ b off,p=some ⟨b,off,none⟩∧b<w.heap.size∧∀ w',Only [] w w'→w'.rangeAt b (off+k*21) (axC l[k]):=by
 obtain⟨b,off,hp,hb,h⟩:=hv.cell k l[k] (List.getElem?_eq_getElem hk);exact⟨b,off,hp,hb,fun w' ho j v hj=>by rw[ho.cell hb (by simp),Nat.add_assoc];exact h j v hj⟩
def ShI (w:World) (l:List Ax) (vi:Value) (wr:World):Prop:=
 ∃ k:Nat,k≤l.length∧vi=.int .i64 k∧(l.take k).all lateOk=true∧Only [] w wr
theorem pShort {w:World} {p:Option Addr} {n cap:Nat} {l:List Ax} (hv:VRow axC 21 w p n cap l) :
  Calls Tryz.prog 4 #[.slice p n cap] w fun e w'=>e=.returned (.bool (shortC l))∧Only [] w w':=by
 have hln:=hv.len;subst hln;obtain⟨res,HE⟩:∃ r,Hid (shortC l=r):=⟨_,hid rfl⟩;rw[HE.out];unfold shortC at HE;by_cases h60:l.length≤60
 rotate_left
 ·have h61:(60:Int)<(l.length:Int):=by omega
  have he:=HE.out;rw[decide_eq_false h60,Bool.false_and] at he;subst he;have m:=mm0 w [];have k:=m.out.k;go_enter Tryz.func4,Tryz.ntmps4
  go_wp2_with (first|((with_reducible first|refine cU ?_|refine wU ?_);clear k m;intro w m k)|((with_reducible refine lE (fun w o g k K hK=>⟨rfl,?_⟩));simp[results,Tryz.results4,go_sem];refine hK _ ?_;exact⟨rfl,o⟩))
 ·have h61:¬ (60:Int)<(l.length:Int):=by omega
  rw[decide_eq_true h60,Bool.true_and] at HE;have HV:=hid hv;clear hv;obtain⟨wo,hwo⟩:∃ wo:World,wo=w:=⟨_,rfl⟩;subst hwo;have m:=mm0 wo [];have k:=m.out.k;go_enter Tryz.func4,Tryz.ntmps4
  go_wp2_with ((with_reducible first|refine cU ?_|refine wU ?_);clear k m;intro w m k)
  obtain⟨wl,hwl⟩:∃ wl:World,wl=wo:=⟨_,rfl⟩;subst hwl;have HV2:=HV;have O2:=hid (Only.refl [] wl);clear k m HV;go_loopw [10] (fun vi wr=>ShI wl l vi wr) (fun vi _=>l.length-(intOf vi).toNat)
  case atStart=>exact⟨0,Nat.zero_le _,rfl,rfl,Only.refl _ _⟩
  case round =>
   obtain⟨j,hk,rfl,hall,ho⟩:=hrel;have OO:=hid ho;by_cases hlt:j<l.length
   ·have hlt2:(j:Int)<(l.length:Int):=by omega
    obtain⟨b,off,rfl,hb,hc⟩:=HV2.out.rng hlt;have HSN:=hid (show (l.take (j+1)).all lateOk=lateOk l[j] by rw[take_snoc l hlt,List.all_append,hall];simp)
    have HNO:=hid (fun (h:lateOk l[j]=false)=>(show l.all lateOk=false from by
     rw[List.all_eq_false];exact⟨_,List.getElem_mem hlt,by simp[h]⟩))
    obtain⟨lv,hlv⟩:∃ v,lateOk l[j]=v:=⟨_,rfl⟩;rw[hlv] at HSN HNO;generalize l[j]=x at hc hlv;obtain⟨x1,x2,x3,x4,⟨e0,e1,e2,e3,e4,e5,e6,e7,e8,e9,e10,e11,e12⟩,⟨i1,i2⟩,xh,xg⟩:=x;unfold axC at hc;dsimp only at hc;unfold lateOk at hlv;dsimp only at hlv;have HX:=hid (fun w' (o:Only [] wr w')=>hc w' (OO.out.nil_trans o));clear hc ho hb hall;have m:=mm0 wr [];have k:=m.out.k;by_cases a1:x3 < -1000
    ·have HF:=hid (HNO.out (hlv ▸ decide_eq_false (by omega)))
     have he:=HE.out;rw[HF.out] at he;subst he;have d1:decide (x3 < -1000)=true:=decide_eq_true a1;clear hlv;go_wp2_with (first|((with_reducible refine wpList_wide (b:=b) (o:=off+j*21) (cs:=[.int .i64 x1,.int .i64 x2,.int .i64 x3,.int .u64 x4,.int .i64 e0,.int .i64 e1,.int .i64 e2,.int .i64 e3,.int .i64 e4,.int .i64 e5,.int .u32 e6,.int .u32 e7,.int .u32 e8,.int .u64 e9,.int .u64 e10,.int .u64 e11,.int .u64 e12,.int .i64 i1,.int .i64 i2,.bool xh,.bool xg]) ?_ (HX.out _ gO) Tryz.underlying45 ?_ ?_ ?_ ?_ ?_ ?_ ?_);(· simp[Act.eval]);(· rfl);(· kernel_rfl);(· kernel_rfl);(· rfl);(· intro p;simp[Act.eval,Act.put]);(· intro p;simp[Act.eval,Act.put]);(clear k m;intro w g hg m;have k:=m.out.k))|((with_reducible refine wU ?_);clear k m;intro w m k)|((with_reducible refine lE (fun w o g k K hK=>⟨rfl,?_⟩));simp[results,Tryz.results4,go_sem];refine hK _ ?_;exact⟨rfl,(O2.out.nil_trans OO.out).nil_trans o⟩))
    ·have d1:decide (x3 < -1000)=false:=decide_eq_false a1
     by_cases a2:70368744177664<x3
     ·have HF:=hid (HNO.out (hlv ▸ decide_eq_false (by omega)))
      have he:=HE.out;rw[HF.out] at he;subst he;have d2:decide (70368744177664<x3)=true:=decide_eq_true a2;clear hlv;go_wp2_with (first|((with_reducible refine wpList_wide (b:=b) (o:=off+j*21) (cs:=[.int .i64 x1,.int .i64 x2,.int .i64 x3,.int .u64 x4,.int .i64 e0,.int .i64 e1,.int .i64 e2,.int .i64 e3,.int .i64 e4,.int .i64 e5,.int .u32 e6,.int .u32 e7,.int .u32 e8,.int .u64 e9,.int .u64 e10,.int .u64 e11,.int .u64 e12,.int .i64 i1,.int .i64 i2,.bool xh,.bool xg]) ?_ (HX.out _ gO) Tryz.underlying45 ?_ ?_ ?_ ?_ ?_ ?_ ?_);(· simp[Act.eval]);(· rfl);(· kernel_rfl);(· kernel_rfl);(· rfl);(· intro p;simp[Act.eval,Act.put]);(· intro p;simp[Act.eval,Act.put]);(clear k m;intro w g hg m;have k:=m.out.k))|((with_reducible refine wU ?_);clear k m;intro w m k)|((with_reducible refine lE (fun w o g k K hK=>⟨rfl,?_⟩));simp[results,Tryz.results4,go_sem];refine hK _ ?_;exact⟨rfl,(O2.out.nil_trans OO.out).nil_trans o⟩))
     ·have d2:decide (70368744177664<x3)=false:=decide_eq_false a2
      have HT:=hid (HSN.out.trans (hlv ▸ decide_eq_true (by omega)));clear hlv;go_wp2_with (first|((with_reducible refine wpList_wide (b:=b) (o:=off+j*21) (cs:=[.int .i64 x1,.int .i64 x2,.int .i64 x3,.int .u64 x4,.int .i64 e0,.int .i64 e1,.int .i64 e2,.int .i64 e3,.int .i64 e4,.int .i64 e5,.int .u32 e6,.int .u32 e7,.int .u32 e8,.int .u64 e9,.int .u64 e10,.int .u64 e11,.int .u64 e12,.int .i64 i1,.int .i64 i2,.bool xh,.bool xg]) ?_ (HX.out _ gO) Tryz.underlying45 ?_ ?_ ?_ ?_ ?_ ?_ ?_);(· simp[Act.eval]);(· rfl);(· kernel_rfl);(· kernel_rfl);(· rfl);(· intro p;simp[Act.eval,Act.put]);(· intro p;simp[Act.eval,Act.put]);(clear k m;intro w g hg m;have k:=m.out.k))|((with_reducible refine wU ?_);clear k m;intro w m k)|(go_roundw;(case rel=>exact⟨j+1,by omega,by go_num,HT.out,OO.out.nil_trans gO⟩);(case measure=>first|(simp[intOf];done)|(simp[intOf];omega))))
   ·obtain rfl:j=l.length:=by omega
    rw[List.take_length] at hall;have he:=HE.out;rw[hall] at he;subst he;have m:=mm0 wr [];have k:=m.out.k;clear ho hall;go_wp2_with (first|((with_reducible first|refine cU ?_|refine wU ?_);clear k m;intro w m k)|((with_reducible refine lE (fun w o g k K hK=>⟨rfl,?_⟩));simp[results,Tryz.results4,go_sem];refine hK _ ?_;exact⟨rfl,(O2.out.nil_trans OO.out).nil_trans o⟩))
def LastOk (c:Cl) (raw last:Int):Prop:=∀ r',raw≤r'→(clNow c r').2=0→last≤(clNow c r').1
def nsV (ns:List Int):List Value:=ns.map fun z=>.int .u64 z
theorem run_make12 (w:World):(Instr.makeSlice 37 (.int .i64 12) (.int .i64 12)).run Tryz.prog w=.ok (.slice (some ⟨w.heap.size,0,none⟩) 12 12) (w.alloc (.cells (nsV (List.replicate 12 0)).toArray 38)):=by
 have hi:(Tryz.prog.info? 38).map (fun i=>(i.zero,i.size,i.bytes))=some (some (Value.int .u64 0),1,8):=by kernel_rfl
 cases h:Tryz.prog.info? 38 with
 | none=>rw[h] at hi;simp at hi
 | some i =>
  rw[h] at hi;simp only[Option.map_some,Option.some.injEq,Prod.mk.injEq] at hi;obtain⟨z1,z2,z3⟩:=hi;rw[run_make w 37 38 i (.int .u64 0) Tryz.underlying37 h z1 .i64 .i64 12 12 (by omega) (by omega) (by rw[z3];decide) (by omega),z2];have e:madeCells (Value.int .u64 0).cells (Int.toNat 12*1)=(nsV (List.replicate 12 0)).toArray:=by kernel_rfl
  rw[e];rfl
structure RsS (wo wr:World) (bn bc k:Nat) (raw last:Int) (P:Pl) (c:Cl) (ns:List Int):Prop where
 bc:P.bc=bc
 cl:ClAt wr P c
 u:ClU c
 ge:∀ b∈P.all,wo.heap.size≤b
 nb:bn ∉ P.all
 bo:wo.heap.size≤bn
 hn:wr.heap[bn]? = some (.cells (nsV ns).toArray 38 (0,0))
 ln:ns.length=12
 nr:∀ x∈ns,0≤x∧x≤18446744073709551615
 r0:0≤raw
 r1:raw≤k*70368744177664
 la:LastOk c raw last
 only:Only [] wo wr
def RsI (wo:World) (bn bc n:Nat) (vr vl vs vi:Value) (wr:World):Prop:=
 ∃ (k:Nat) (raw last:Int) (P:Pl) (c:Cl) (ns:List Int),k≤n∧vr=.int .i64 raw∧vl=.int .i64 last∧vs=.int .i64 c.ck.steps∧vi=.int .i64 k∧RsS wo wr bn bc k raw last P c ns
def AxOk (x:Ax):Prop:=(-9223372036854775808≤x.server∧x.server≤9223372036854775807)∧(0≤x.nonce∧x.nonce≤18446744073709551615)∧npOk x.head
theorem short_at {l:List Ax} (h:shortC l=true):l.length≤60∧∀ k (hk:k<l.length),-1000≤l[k].later∧l[k].later≤70368744177664:=by
 unfold shortC at h;simp only[Bool.and_eq_true,decide_eq_true_eq,List.all_eq_true] at h;refine⟨h.1,fun k hk=>?_⟩;have:=h.2 _ (List.getElem_mem hk);unfold lateOk at this;exact of_decide_eq_true this
theorem ns_set (ns:List Int) (j:Nat) (z:Int):(nsV ns).set j (.int .u64 z)=nsV (ns.set j z):=by unfold nsV;rw[List.map_set]
theorem ns_at {ns:List Int} {j:Nat} {z:Int} (h:ns[j]? = some z):(nsV ns)[j]? = some (.int .u64 z):=by unfold nsV;rw[List.getElem?_map,h];rfl
theorem nr_set {ns:List Int} {j:Nat} {z:Int} (h:∀ x∈ns,0≤x∧x≤18446744073709551615) (hz:0≤z∧z≤18446744073709551615):∀ x∈ns.set j z,0≤x∧x≤18446744073709551615:=fun x hx=>by
 rcases List.mem_or_eq_of_mem_set hx with h'|rfl
 ·exact h x h'
 ·exact hz
end Go.Proofs.YtedgpfgccpnjnaaGreat
