/- fault.Apply, at a valid script. Conditions: those named in the theorem. -/
import Derived.Test.YtppjhbjmfkiejaaGreatFNk
import Derived.Deep.MidRow
namespace Go.Proofs.YtppjhbjmfkiejaaGreat
set_option linter.all false
open Go.Lib (hid)
set_option maxRecDepth 100000
set_option maxHeartbeats 8000000
open Go.RowKit Go.Sort
def appI (l:List Ft) (t:Int) (g:Fg) (is:List Int):Fg:=is.foldl (fun g i=>frgF t g (l.getD i.toNat ft0)) g
theorem appI_snoc (l:List Ft) (t:Int) (g:Fg) (is:List Int) (i:Int):appI l t g (is ++ [i])=frgF t (appI l t g is) (l.getD i.toNat ft0):=by
 unfold appI;rw[List.foldl_append];rfl
theorem actI_mem {l:List Ft} {n t i:Int} {m:Nat} (h:i∈actI l n t m):0<=i/\i<m:=by
 unfold actI at h;obtain⟨j,hj,rfl⟩:=List.mem_map.1 h;have:=List.mem_range.1 (List.mem_filter.1 hj).1;omega
theorem appI_all (l:List Ft) (n t:Int) (g:Fg):∀ m,m<=l.length->appI l t g (actI l n t m)=((l.take m).filter (actF n t)).foldl (frgF t) g
 | 0,_=>by unfold actI appI;simp
 |m+1,h=>by
  have hm:m<l.length:=by omega
  have hg:l.getD m ft0=l[m]:=by rw[List.getD_eq_getElem?_getD,List.getElem?_eq_getElem hm];rfl
  rw[List.take_succ_eq_append_getElem hm,List.filter_append]
  cases hb:actF n t (l.getD m ft0) with
  | true =>
   rw[actI_yes hb,appI_snoc,appI_all l n t g m (by omega),Int.toNat_natCast,show List.filter (actF n t) [l[m]]=[l[m]] from by rw[<-hg];simp only[List.filter_cons,hb,if_true,List.filter_nil],List.foldl_append,hg];rfl
  | false =>
   rw[actI_no hb,appI_all l n t g m (by omega),show List.filter (actF n t) [l[m]]=[] from by rw[<-hg];simp only[List.filter_cons,hb,Bool.false_eq_true,if_false,List.filter_nil],List.append_nil]
theorem getD_okF {l:List Ft} (h:fcE l=0) {i:Nat} (hi:i<l.length):ftE (l.getD i ft0)=0:=by
 rw[List.getD_eq_getElem?_getD,List.getElem?_eq_getElem hi];exact (fc_ok h).2 _ (List.getElem_mem hi)
theorem wpList_ld {Pr:Program} {w0 w:World} {S:List Nat} {L:List Blk} {Q:Exit->Act->World->Prop} {ops:Array Oper} {rest:List Oper} {a:Act} [m:Mm w0 S w L] {ty y1:TypeId} {s1:String} {e1:Array Edge} {x:Operand} {tL:Tmp} {b:Nat} {cs:List Value} {t:TypeId} {d:TypeDesc} [h:Has L b cs t]
  (hx:a.eval x=.pointer (some ⟨b,0,none⟩)) (hu:Pr.underlying ty=some d) (hd:d.isRow=true) (hi:(Pr.info? ty).map (·.size)=some cs.length)
  (hk:wpList Pr ops Q rest (a.put (some tL) (.agg cs.toArray)) w):wpList Pr ops Q (⟨some tL,.load ty x,y1,s1,e1,none⟩::rest) a w:=
 wpList_load_mid rfl ty x rfl b 0 hx cs d (fun j v hv=>by rw[Nat.zero_add,cell_got gB j,List.getElem?_toArray];exact hv) hu hd hi hk
theorem wpList_sto {Pr:Program} {w0 w:World} {S:List Nat} {L L':List Blk} {Q:Exit->Act->World->Prop} {ops:Array Oper} {rest:List Oper} {a:Act} [m:Mm w0 S w L] {ty y1:TypeId} {s1:String} {e1:Array Edge} {x y:Operand} {b:Nat} {old cs:List Value} [h:Has L b old ty] [s:PutIn L b cs ty L']
  (hx:a.eval x=.pointer (some ⟨b,0,none⟩)) (hy:a.eval y=.agg cs.toArray) (hi:(Pr.info? ty).map (·.size)=some cs.length) (hl:old.length=cs.length) (h1:cs.all (·.oneCell')=true)
  (hk:∀ w',Mm w0 S w' L'->wpList Pr ops Q rest (a.put none undef) w'):wpList Pr ops Q (⟨none,.store ty x y,y1,s1,e1,none⟩::rest) a w:=by
 refine _root_.Go.wpList_store_row rfl ty x y rfl b cs.toArray hx hy ty old.toArray gB (by rw[hi,List.size_toArray]) (by simpa using hl) (by simpa using h1) ?_;obtain⟨i,vs,h2,rfl⟩:=s.h;exact hk _ ⟨m.out.upd h2 (setRow_heap w b old.toArray cs.toArray ty (0,0) gB) ⟨rfl,rfl,rfl,by simp[World.setRow],fun q _ hq=>setRow_other _ _ q _ (fun e=>hq (by simp[e]))⟩⟩
theorem wpList_ldsto {Pr:Program} {w0 w:World} {S:List Nat} {L L':List Blk} {Q:Exit->Act->World->Prop} {ops:Array Oper} {rest:List Oper} {a:Act} [m:Mm w0 S w L] {ty y1 y2:TypeId} {s1 s2:String} {e1 e2:Array Edge} {x y z:Operand} {tL:Tmp} {b c:Nat} {old cs:List Value} {t:TypeId} {d:TypeDesc} [h:Has L b cs t] [h':Has L c old ty] [s:PutIn L c cs ty L']
  (hx:a.eval x=.pointer (some ⟨b,0,none⟩)) (hu:Pr.underlying ty=some d) (hd:d.isRow=true) (hi:(Pr.info? ty).map (·.size)=some cs.length)
  (hy:(a.put (some tL) (.agg cs.toArray)).eval y=.pointer (some ⟨c,0,none⟩)) (hz:(a.put (some tL) (.agg cs.toArray)).eval z=.agg cs.toArray) (hl:old.length=cs.length) (h1:cs.all (·.oneCell')=true)
  (hk:∀ w',Mm w0 S w' L'->wpList Pr ops Q rest ((a.put (some tL) (.agg cs.toArray)).put none undef) w'):wpList Pr ops Q (⟨some tL,.load ty x,y1,s1,e1,none⟩::⟨none,.store ty y z,y2,s2,e2,none⟩::rest) a w:=
 wpList_ld hx hu hd hi (wpList_sto hy hz hi hl h1 hk)
theorem ret_row {Pr:Program} {fn:Func} {tmps:Array Value} {w:World} {i:Tmp} {t t':TypeId} {b:Nat} {cs:List Value} {d:TypeDesc} (hr:fn.results=#[.cell i t]) (ht:tmps.getD i undef=.pointer (some ⟨b,0,none⟩)) (hg:w.heap[b]? = some (.cells cs.toArray t' (0,0)))
  (hu:Pr.underlying t=some d) (hd:d.isRow=true) (hi:(Pr.info? t).map (·.size)=some cs.length):(results fn tmps).run Pr w=.ok (.agg cs.toArray) w:=by
 have h:=run_loadVar_mid w b 0 t cs d (fun j v hv=>by rw[Nat.zero_add,cell_got hg j,List.getElem?_toArray];exact hv) hu hd hi;have ht':tmps[i]?.getD undef=.pointer (some ⟨b,0,none⟩):=by rw[<-ht];simp
 simp[results,hr,ht',asAddr,h]
def fgV (g:Fg):Value:=.agg (fgC g).toArray
theorem pApply {w:World} {p:Option Addr} {m cap:Nat} {l:List Ft} (n t:Int) (q:Np) (x:Iv) (hv:VRow ftC 5 w p m cap l) (hl:fcE l=0) (t0:0<=t) (t1:t<=1125899906842624) :
  Calls Tryz.prog 173 #[.slice p m cap,.int .i64 n,.int .i64 t,npV q,ivV x] w fun e w'=>e=.returned (fgV (appF l n t q x))/\Only [] w w':=by
 have h32:=(fc_ok hl).1;have HV:=hid hv;have hln:=hv.len;have hcap:=Nat.le_trans hv.le hv.cm;subst hln;have HA:=hid (fun w' (o:Only [] w w')=>pActive n t (hv.kept o) hl);have HL:=hid hl;have HE:Hid (appI l t ⟨false,q,x,0⟩ (actI l n t l.length)=appF l n t q x):=hid (by rw[appI_all l n t _ _ (Nat.le_refl _),List.take_length];rfl);have HI:=hid (fun i (h:i∈actI l n t l.length)=>actI_mem h);have HIL:=hid (actI_len l n t l.length);generalize actI l n t l.length=is at HA HE HI HIL;rw[<-HE.out];obtain⟨q1,q2,q3,q4,q5,q6,q7,q8,q9,qa,qb,qc,qd⟩:=q;obtain⟨x1,x2⟩:=x;unfold npV ivV;dsimp only;obtain⟨g0,hg0⟩:∃ g:Fg,(⟨false,⟨q1,q2,q3,q4,q5,q6,q7,q8,q9,qa,qb,qc,qd⟩,⟨x1,x2⟩,0⟩:Fg)=g:=⟨_,rfl⟩;have HC0:Hid (fgC g0=[.bool false,.int .i64 q1,.int .i64 q2,.int .i64 q3,.int .i64 q4,.int .i64 q5,.int .i64 q6,.int .u32 q7,.int .u32 q8,.int .u32 q9,.int .u64 qa,.int .u64 qb,.int .u64 qc,.int .u64 qd,.int .i64 x1,.int .i64 x2,.int .i64 0]):=hid (by rw[<-hg0];rfl);have hh0:g0.hold=0:=by rw[<-hg0]
 rw[hg0];clear hg0 HE hv hl;obtain⟨wo,hwo⟩:∃ wo:World,wo=w:=⟨_,rfl⟩;subst hwo;have m:=mm0 wo [];have k:=m.out.k;go_enter Tryz.func173,Tryz.ntmps173
 go_wp2_with ((with_reducible first|refine cU ?_|refine wU ?_);clear k m;intro w m k)
 have hbr:=gB (w:=w) (b:=wo.heap.size+1+1);have hbs:=gB (w:=w) (b:=wo.heap.size+1+1+1);have OB:=hid m.out.only;have nrs:wo.heap.size+1+1≠wo.heap.size+1+1+1:=by omega
 have grb:wo.heap.size<=wo.heap.size+1+1:=by omega
 have gsb:wo.heap.size<=wo.heap.size+1+1+1:=by omega
 generalize wo.heap.size+1+1+1=bs at hbs nrs gsb ⊢;generalize wo.heap.size+1+1=br at hbr nrs grb ⊢;have HBR:=hid hbr;have hbs':w.heap[bs]? = some (.cells (fgC g0).toArray 315 (0,0)):=by rw[HC0.out];exact hbs
 have HBS:=hid hbs';clear k m hbr hbs hbs' HC0;refine (HA.out w OB.out).mono ?_;rintro e w2 ⟨v,rfl,hown,ho⟩;have hge:=hown.block_ge;obtain⟨pi,ci,rfl,hvi⟩:=hown.vrow intC_len;have hbsw:=got_lt HBS.out;replace OB:=hid (OB.out.nil_trans ho);replace HBR:=hid (ho.got HBR.out (by simp));replace HBS:=hid (ho.got HBS.out (by simp));have HVI:=hid hvi;have hcapi:=Nat.le_trans hvi.le hvi.cm
 have HGE:=hid (show ∀ b off,pi=some ⟨b,off,none⟩->b≠bs from fun b off q=>by
  subst q;have:=hge b (by simp[Value.ownBlock]);omega)
 clear hown hvi ho HA hge hbsw;obtain⟨wl,hwl⟩:∃ wl:World,wl=w2:=⟨_,rfl⟩;subst hwl;go_wp2_with fail
 go_loopw [22] (fun vi wr=>∃ j:Nat,j<=is.length/\vi=.int .i64 j/\wr.heap[bs]? = some (.cells (fgC (appI l t g0 (is.take j))).toArray 315 (0,0))/\(0<=(appI l t g0 (is.take j)).hold/\(appI l t g0 (is.take j)).hold<=(j:Int)*1125899906842624)/\Only [bs] wl wr) (fun vi _=>is.length-(intOf vi).toNat)
 case atStart=>exact⟨0,Nat.zero_le _,rfl,HBS.out,by rw[List.take_zero];show 0<=g0.hold/\g0.hold<=_;rw[hh0];simp,Only.refl _ _⟩
 case round =>
  obtain⟨j,hj,rfl,hb,hhold,ho⟩:=hrel;have HH:=hid hhold;have OO:=hid ho;have HB:=hid hb;have WW:=hid (OB.out.trans ho (fun q hq=>.inr (by rw[List.mem_singleton.1 hq];exact gsb)));clear hhold ho hb;have his:=HIL.out;by_cases hlt:j<is.length
  ·have hlt2:(j:Int)<(is.length:Int):=by omega
   have hmem:=HI.out is[j] (List.getElem_mem hlt);obtain⟨i,hi⟩:∃ i:Nat,is[j]=(i:Int):=⟨is[j].toNat,by omega⟩;have hil:i<l.length:=by omega
   have hil2:(i:Int)<(l.length:Int):=by omega
   have HSN:=hid (show appI l t g0 (is.take (j+1))=frgF t (appI l t g0 (is.take j)) (l.getD i ft0) by
    rw[List.take_succ_eq_append_getElem hlt,appI_snoc,hi,Int.toNat_natCast])
   obtain⟨bi,oi,rfl,-⟩:=HVI.out.cell j is[j] (List.getElem?_eq_getElem hlt);obtain⟨bk,off,rfl,-⟩:=HV.out.ft (Only.refl [] wo) hil;have hbi:bi≠bs:=HGE.out bi oi rfl
   have HX:=hid (show ∀ w',Only [bs] wr w'->(bi<w'.heap.size/\w'.cell? ⟨bi,oi+j,none⟩=some (.int .i64 (i:Int)))/\bk<w'.heap.size/\w'.cell? ⟨bk,off+i*5,none⟩=some (.int .i64 (l.getD i ft0).n)/\w'.cell? ⟨bk,off+i*5+1,none⟩=some (.int .i64 (l.getD i ft0).f)/\w'.cell? ⟨bk,off+i*5+2,none⟩=some (.int .i64 (l.getD i ft0).t)/\w'.cell? ⟨bk,off+i*5+3,none⟩=some (.int .i64 (l.getD i ft0).k)/\w'.cell? ⟨bk,off+i*5+4,none⟩=some (.int .i64 (l.getD i ft0).v) from fun w' o=>by
    obtain⟨b',o',e,c1,c2,c3,c4,c5,c6⟩:=HV.out.ft (WW.out.trans o (fun q hq=>.inr (by rw[List.mem_singleton.1 hq];exact gsb))) hil
    cases e
    obtain⟨b2,o2,e2,d1,d2⟩:=HVI.out.cell j is[j] (List.getElem?_eq_getElem hlt)
    cases e2
    have o3:=OO.out.trans o (fun q hq=>.inl hq);have d3:=d2 0 _ rfl;rw[hi,Nat.mul_one,Nat.add_zero] at d3;exact⟨⟨Nat.lt_of_lt_of_le d1 o3.size,(o3.cell d1 (by simpa using hbi)).trans d3⟩,c6,c1,c2,c3,c4,c5⟩)
   have hfo:=getD_okF HL.out hil;have HFG:=hid (fun w' hs=>pForge (w:=w') (bs:=bs) (g:=appI l t g0 (is.take j)) (f:=l.getD i ft0) (t:=t) hs t0 t1 hfo (by have:=HH.out;omega));have HFH:=hid (frg_hold (t:=t) (g:=appI l t g0 (is.take j)) hfo HH.out.1);have HHB:=hid (show (frgF t (appI l t g0 (is.take j)) (l.getD i ft0)).hold<=((j+1:Nat):Int)*1125899906842624 by have:=HH.out;have:=HFH.out;omega);have HHA:=hid HFH.out.1;have HJ:=hid (show j+1<=is.length by omega);have eb:IntKind.i64.wrap ((j:Int)+1)=((j+1:Nat):Int):=by rw[IntKind.wrap_i64];omega
   clear hfo HFH hmem hi;generalize l.getD i ft0=f at HX HFG HSN HHB HHA;obtain⟨f1,f2,f3,f4,f5⟩:=f;unfold ftV at HFG;dsimp only at HX HFG;generalize appI l t g0 (is.take j)=gg at HB HFG HSN HHB HHA HH;generalize frgF t gg ⟨f1,f2,f3,f4,f5⟩=g2 at HFG HSN HHB HHA;have m:=mm1 HB.out;have k:=m.out.k;have c:=HX.out wr (Only.refl _ _);go_wp2_with (first|((with_reducible first|refine cP (HFG.out _ gB) ?_|refine cU ?_|refine wU ?_);clear k m c;intro w m k;have c:=HX.out w m.out.only)|(go_roundw;(case rel=>exact⟨j+1,HJ.out,by go_num,by rw[HSN.out];exact gB,by rw[HSN.out];exact⟨HHA.out,HHB.out⟩,OO.out.trans gO (fun q hq=>.inl hq)⟩);(case measure=>first|(simp[intOf];done)|(simp[intOf];omega))))
  ·obtain rfl:j=is.length:=by omega
   have hlt2:decide ((is.length:Int)<(is.length:Int))=false:=by simp
   have hb:=HB.out;rw[List.take_length] at hb;have HBR2:=hid (OO.out.got HBR.out (by simpa using nrs));have HWW:=WW;obtain⟨gg,hgg⟩:∃ g,appI l t g0 is=g:=⟨_,rfl⟩;rw[hgg] at hb;have HGG:=hid hgg;clear hgg;have m:Mm wr [br] wr _:=⟨((Mem.start wr [br]).ext false hb (by simp) (by simp)).ext true HBR2.out (by simpa using nrs) (by simp)⟩;have k:True:=trivial;clear hb;go_wp2_with (first|((with_reducible refine wpList_ldsto (ty:=315) (b:=bs) (c:=br) (cs:=fgC gg) ?_ Tryz.underlying315 ?_ ?_ ?_ ?_ ?_ ?_ ?_);(· simp[Act.eval]);(· rfl);(· kernel_rfl);(· simp[Act.eval,Act.put]);(· simp[Act.eval,Act.put]);(· rfl);(· rfl);(clear k m;intro w m;have k:True:=trivial))|((with_reducible refine wU ?_);clear k m;intro w m k))
   refine lE (fun w o g _ K hK=>⟨rfl,_,ret_row (b:=br) (cs:=fgC gg) (t':=315) Tryz.results173 ?_ ?_ Tryz.underlying315 ?_ ?_,hK _ ?_⟩)
   ·rfl
   ·exact g.1
   ·rfl
   ·kernel_rfl
   ·exact⟨by rw[HGG.out];rfl,HWW.out.trans o (fun q hq=>.inr (by rw[List.mem_singleton.1 hq];exact grb))⟩
end Go.Proofs.YtppjhbjmfkiejaaGreat
