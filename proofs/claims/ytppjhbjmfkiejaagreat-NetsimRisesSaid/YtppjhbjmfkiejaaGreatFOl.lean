/- NetsimRises: the records of a node rise: the law returns true for every input. No condition. -/
import Derived.Test.YtppjhbjmfkiejaaGreatFOj
import Derived.HandedShaped
import Derived.Lib.SmallJoins
namespace Go.Proofs.YtppjhbjmfkiejaaGreat
set_option linter.all false
open List (getD_cons_succ getD_cons_zero getElem?_eq_getElem map_cons map_nil)
section
open Go.Lib (hid)
set_option maxRecDepth 100000
set_option maxHeartbeats 8000000
open Go.RowKit Go.Sort
structure ScW.Ok0 (w:World) (s:ScW):Prop where
 nd:VRow ndC 7 w s.pn s.nd.length s.cn s.nd
 lk:VRow lkC 9 w s.pl s.lk.length s.cl s.lk
 ft:VRow ftC 5 w s.pf s.ft.length s.cf s.ft
 ns:∀ x∈s.nd,VRow sgC 2 w x.ps x.n.sg.length x.cs x.n.sg/\VRow itC 1 w x.pv x.n.sv.length x.cv x.n.sv
 ls:∀ x∈s.lk,VRow chC 3 w x.p x.l.ch.length x.c x.l.ch
theorem ScW.Ok0.ok {w:World} {s:ScW} (h:s.Ok0 w) (hf:FewP s):s.Ok w:=by
 obtain⟨a1,a2,a3,a4,a5⟩:=hf;refine⟨h.nd,h.lk,h.ft,fun x hx=>?_,fun x hx=>?_,by omega,by omega,by omega⟩
 ·obtain⟨i,hi,rfl⟩:=List.getElem_of_mem hx
  have:=a4 i hi;rw[List.getD_eq_getElem?_getD,getElem?_eq_getElem hi] at this;exact⟨(h.ns _ hx).1,(h.ns _ hx).2,Nat.le_trans this.1 (by decide),Nat.le_trans this.2 (by decide)⟩
 ·obtain⟨i,hi,rfl⟩:=List.getElem_of_mem hx
  have:=a5 i hi;rw[List.getD_eq_getElem?_getD,getElem?_eq_getElem hi] at this;exact⟨h.ls _ hx,Nat.le_trans this (by decide)⟩
theorem mk_rise {l:List Mrk} (h:l.Pairwise MkR) {i k:Nat} (hi:i<l.length) (hk:k<i) (e:(l[k]'(by omega)).nd=l[i].nd):(l[k]'(by omega)).at_<=l[i].at_/\(l[k]'(by omega)).raw<=l[i].raw/\(l[k]'(by omega)).stp<=l[i].stp/\((l[k]'(by omega)).stp=l[i].stp->(l[k]'(by omega)).clk<=l[i].clk):=
 List.pairwise_iff_getElem.1 h k i (by omega) hi hk e
theorem pNRises {w:World} (s:ScW) (c:Cf) (h0:s.Ok0 w) {R:List (Int × Int)} (hR:Rnds w R) :
  Calls Tryz.prog 3 #[scnV s,cfV c] w fun e w'=>e=.returned (.bool true)/\Only [] w w':=by
 have HFEW:=hid (fun w' (o:Only [] w w')=>pFew s (h0.nd.kept o) (h0.lk.kept o));have HRUN:=hid (fun (hf:FewP s) w' (o:Only [] w w')=>pNRun s c ((h0.ok hf).kept o) (hR.kept o));have HAW:=hid (fun w' (o:Only [] w w')=>pAwake (hR.kept o));have HP:=hid (fun (hf:FewP s) (hz:nchkF s.sc c=0)=>(⟨(WScOk.of_check (h0.ok hf) (nchk_ok hz).1).p,(nchk_ok hz).2⟩:ScP s.sc/\ccheck (cf1 c)=0));clear h0 hR;have HNR:Hid (NRunR R=NRunR R):=hid rfl;obtain⟨wo,hwo⟩:∃ wo:World,wo=w:=⟨_,rfl⟩;subst hwo;unfold scnV cfV at *;have m:=mm0 wo [];have k:=m.out.k;go_enter Tryz.func3,Tryz.ntmps3
 go_wp2_with ((with_reducible first|refine cU ?_|refine wU ?_);clear k m;intro w m k)
 refine (HFEW.out _ m.out.only).mono ?_;rintro r w2 ⟨b,rfl,hb,o2⟩;have m:Mm wo [] w2 _:=⟨m.out.call o2⟩;clear k o2 HFEW;have k:=m.out.k
 cases b
 rotate_left
 focus
  have HR2:=hid (HRUN.out (hb rfl));have HP2:=hid (HP.out (hb rfl));clear HRUN HP hb;go_wp2_with ((with_reducible first|refine cU ?_|refine wU ?_);clear k m;intro w m k)
  refine (HR2.out _ m.out.only).mono ?_;rintro r w3 ⟨hr,o3⟩;have m:Mm wo [] w3 _:=⟨m.out.call o3⟩;clear k o3 HR2;have k:=m.out.k;rcases hr with ⟨hz,rfl⟩|⟨hz,st,v,hrun,rfl,own⟩;rotate_left
  focus
   have HPR:=hid (run_ris (HP2.out hz).1 (HP2.out hz).2 hrun).pr;obtain⟨p,cap,rfl,hv⟩:=own.vrow mkC_len;have HV:=hid hv;have hlen:st.mks.length<=maxLen:=Nat.le_trans hv.le hv.cm;have OO:=hid m.out.only;clear own hv hrun HP2 hz;generalize st.mks=l at HPR HV hlen ⊢;clear k m;obtain⟨wl,hwl⟩:∃ wl:World,wl=w3:=⟨_,rfl⟩;subst hwl;have m:=mm0 wl [];have k:=m.out.k;go_wp2_with ((with_reducible first|refine cU ?_|refine wU ?_);clear k m;intro w m k)
   clear k m;go_loopw [25] (fun vi wr=>∃ i:Nat,i<=l.length/\vi=.int .i64 i/\Only [] wl wr) (fun vi _=>l.length-(intOf vi).toNat)
   case atStart=>exact⟨0,Nat.zero_le _,rfl,Only.refl _ _⟩
   case round =>
    obtain⟨i,hi,rfl,ho⟩:=hrel;have O1:=hid ho;by_cases hlt:i<l.length
    ·have hlt2:(i:Int)<(l.length:Int):=by omega
     obtain⟨bk,off,rfl,-⟩:=HV.out.mrk (Only.refl [] wl) hlt;obtain⟨x,hx⟩:∃ x,l[i]=x:=⟨_,rfl⟩;have HRI:=hid (fun j (hj:j<i)=>mk_rise HPR.out hlt hj)
     have HX:=hid (show ∀ w',Only [] wr w'->bk<w'.heap.size/\w'.cell? ⟨bk,off+i*9,none⟩=some (.int .i64 x.at_)/\w'.cell? ⟨bk,off+i*9+1,none⟩=some (.int .i64 x.nd)/\w'.cell? ⟨bk,off+i*9+2,none⟩=some (.int .i64 x.raw)/\w'.cell? ⟨bk,off+i*9+3,none⟩=some (.int .i64 x.clk)/\w'.cell? ⟨bk,off+i*9+4,none⟩=some (.int .i64 x.stp)/\w'.cell? ⟨bk,off+i*9+5,none⟩=some (.int .i64 x.lo)/\w'.cell? ⟨bk,off+i*9+6,none⟩=some (.int .i64 x.hi)/\w'.cell? ⟨bk,off+i*9+7,none⟩=some (.int .i64 x.kd)/\w'.cell? ⟨bk,off+i*9+8,none⟩=some (.int .i64 x.vl) from fun w' o=>by
      obtain⟨b',o',e,q⟩:=HV.out.mrk (O1.out.nil_trans o) hlt
      cases e
      rw[hx] at q;exact q)
     rw[hx] at HRI;clear hx ho;have ei:IntKind.i64.wrap ((i:Int)+1)=((i+1:Nat):Int):=by unfold maxLen at hlen;rw[IntKind.wrap_i64];omega
     have ej:IntKind.i64.wrap ((i:Int)-1)=(i:Int)-1:=by unfold maxLen at hlen;rw[IntKind.wrap_i64];omega
     obtain⟨x0,x1,x2,x3,x4,x5,x6,x7,x8⟩:=x;dsimp only at HX HRI;obtain⟨wn,hwn⟩:∃ wn:World,wn=wr:=⟨_,rfl⟩;subst hwn;have m:=mm0 wn [];have k:=m.out.k;have c:=HX.out wn (Only.refl _ _);go_wp2_with ((with_reducible first|refine cU ?_|refine wU ?_);clear k m c;intro w m k;have c:=HX.out w m.out.only)
     have OB:=hid m.out.only;have hbx:=gB (w:=w) (b:=wn.heap.size);generalize wn.heap.size=bs at hbx ⊢;have HBX:=hid hbx;clear k m hbx c;obtain⟨wm,hwm⟩:∃ wm:World,wm=w:=⟨_,rfl⟩;subst hwm;go_loopw [9] (fun vk wr=>∃ k:Nat,k<=i/\vk=.int .i64 ((k:Int)-1)/\Only [] wm wr) (fun vk _=>(intOf vk+1).toNat)
     case atStart=>exact⟨i,Nat.le_refl _,rfl,Only.refl _ _⟩
     case round =>
      obtain⟨k,hk,rfl,ho⟩:=hrel;have O2:=hid ho;have hb:=ho.got HBX.out (by simp);have OA:=hid ((O1.out.nil_trans OB.out).nil_trans ho);clear ho
      cases k with
      | zero =>
       have hz:decide ((0:Int)<=((0:Nat):Int)-1)=false:=by decide
       have m:=mmR hb;have k:=m.out.k;clear hb;go_wp2_with (first|((with_reducible first|refine cU ?_|refine wU ?_);clear k m;intro w m k)|(go_roundw;(case rel=>exact⟨i+1,by omega,by go_num,OA.out.trans gO (by simp)⟩);(case measure=>first|(simp[intOf];done)|(simp[intOf];omega))))
      | succ j =>
       rw[show ((j+1:Nat):Int)-1=(j:Int) by omega];have hj0:decide ((0:Int)<=(j:Int))=true:=by simp
       have ek:IntKind.i64.wrap ((j:Int)-1)=(j:Int)-1:=by unfold maxLen at hlen;rw[IntKind.wrap_i64];omega
       have hjl:(j:Int)<(l.length:Int):=by omega
       have hjm:j<l.length:=by omega
       obtain⟨y,hy⟩:∃ y,l[j]=y:=⟨_,rfl⟩;have hri:=HRI.out j hk
       have HY:=hid (show ∀ w',Only [] wr w'->bk<w'.heap.size/\w'.cell? ⟨bk,off+j*9,none⟩=some (.int .i64 y.at_)/\w'.cell? ⟨bk,off+j*9+1,none⟩=some (.int .i64 y.nd)/\w'.cell? ⟨bk,off+j*9+2,none⟩=some (.int .i64 y.raw)/\w'.cell? ⟨bk,off+j*9+3,none⟩=some (.int .i64 y.clk)/\w'.cell? ⟨bk,off+j*9+4,none⟩=some (.int .i64 y.stp)/\w'.cell? ⟨bk,off+j*9+5,none⟩=some (.int .i64 y.lo)/\w'.cell? ⟨bk,off+j*9+6,none⟩=some (.int .i64 y.hi)/\w'.cell? ⟨bk,off+j*9+7,none⟩=some (.int .i64 y.kd)/\w'.cell? ⟨bk,off+j*9+8,none⟩=some (.int .i64 y.vl) from fun w' o=>by
        obtain⟨b',o',e,q⟩:=HV.out.mrk (OA.out.nil_trans o) hjm
        cases e
        rw[hy] at q;exact q)
       rw[hy] at hri;clear hy;obtain⟨y0,y1,y2,y3,y4,y5,y6,y7,y8⟩:=y;dsimp only at HY hri;have m:=mmR hb;have k:=m.out.k;have c:=HY.out wr (Only.refl _ _);clear hb;by_cases hn:y1=x1
       ·obtain⟨q0,q2,q4,q3⟩:=hri hn
        subst hn;have e1:(y1 != y1)=false:=by simp
        have d0:decide (x0<y0)=false:=decide_eq_false (by omega);have d2:decide (x2<y2)=false:=decide_eq_false (by omega);have d4:decide (x4<y4)=false:=decide_eq_false (by omega);clear q0 q2 q4 hri;by_cases h4:y4=x4
        ·have q3:=q3 h4
         subst h4;have e4:(y4 == y4)=true:=by simp
         have d3:decide (x3<y3)=false:=decide_eq_false (by omega);clear q3;go_wp2_with (first|((with_reducible refine rG (id:=12) [0,1,2,3,4,5,6,7] [] (by kernel_rfl) (by kernel_rfl) ?_);simp only[pick,map_cons,map_nil,getD_cons_succ,getD_cons_zero];(repeat' (first|go_big_quiet_step (fail)|(refine wpQuiet_step (fun K hK=>?_);go_simp;(first|(refine hK _ ?_;clear hK K)|(split<;>(refine hK _ ?_;clear hK K))))));all_goals (refine wpQuiet_nil ?_;clear k m c;intro w m k;have c:=HY.out w m.out.only))|((with_reducible refine rG (id:=13) [0,1,2,3,4,5,6,7,8,9,10,11,12,13,14,15,16,17,18,19,20,21,22,23,24,25,26,27,28,29,30,31,32,33,34,35,36,37,38,39,40,41,42,43,44,45,46,47] [] (by kernel_rfl) (by kernel_rfl) ?_);simp only[pick,map_cons,map_nil,getD_cons_succ,getD_cons_zero];(repeat' (first|go_big_quiet_step (fail)|(refine wpQuiet_step (fun K hK=>?_);go_simp;(first|(refine hK _ ?_;clear hK K)|(split<;>(refine hK _ ?_;clear hK K))))));all_goals (refine wpQuiet_nil ?_;clear k m c;intro w m k;have c:=HY.out w m.out.only))|((with_reducible first|refine cU ?_|refine wU ?_);clear k m c;intro w m k;have c:=HY.out w m.out.only)|(go_roundw;(case rel=>exact⟨i+1,by omega,by go_num,OA.out.trans gO (by simp)⟩);(case measure=>first|(simp[intOf];done)|(simp[intOf];omega))))
        ·have e4:(y4 == x4)=false:=by simpa using h4
         clear q3;go_wp2_with (first|((with_reducible refine rG (id:=12) [0,1,2,3,4,5,6,7] [] (by kernel_rfl) (by kernel_rfl) ?_);simp only[pick,map_cons,map_nil,getD_cons_succ,getD_cons_zero];(repeat' (first|go_big_quiet_step (fail)|(refine wpQuiet_step (fun K hK=>?_);go_simp;(first|(refine hK _ ?_;clear hK K)|(split<;>(refine hK _ ?_;clear hK K))))));all_goals (refine wpQuiet_nil ?_;clear k m c;intro w m k;have c:=HY.out w m.out.only))|((with_reducible refine rG (id:=13) [0,1,2,3,4,5,6,7,8,9,10,11,12,13,14,15,16,17,18,19,20,21,22,23,24,25,26,27,28,29,30,31,32,33,34,35,36,37,38,39,40,41,42,43,44,45,46,47] [] (by kernel_rfl) (by kernel_rfl) ?_);simp only[pick,map_cons,map_nil,getD_cons_succ,getD_cons_zero];(repeat' (first|go_big_quiet_step (fail)|(refine wpQuiet_step (fun K hK=>?_);go_simp;(first|(refine hK _ ?_;clear hK K)|(split<;>(refine hK _ ?_;clear hK K))))));all_goals (refine wpQuiet_nil ?_;clear k m c;intro w m k;have c:=HY.out w m.out.only))|((with_reducible first|refine cU ?_|refine wU ?_);clear k m c;intro w m k;have c:=HY.out w m.out.only)|(go_roundw;(case rel=>exact⟨i+1,by omega,by go_num,OA.out.trans gO (by simp)⟩);(case measure=>first|(simp[intOf];done)|(simp[intOf];omega))))
       ·have e1:(y1 != x1)=true:=by simpa using hn
        clear hri;go_wp2_with (first|((with_reducible refine rG (id:=12) [0,1,2,3,4,5,6,7] [] (by kernel_rfl) (by kernel_rfl) ?_);simp only[pick,map_cons,map_nil,getD_cons_succ,getD_cons_zero];(repeat' (first|go_big_quiet_step (fail)|(refine wpQuiet_step (fun K hK=>?_);go_simp;(first|(refine hK _ ?_;clear hK K)|(split<;>(refine hK _ ?_;clear hK K))))));all_goals (refine wpQuiet_nil ?_;clear k m c;intro w m k;have c:=HY.out w m.out.only))|((with_reducible refine rG (id:=13) [0,1,2,3,4,5,6,7,8,9,10,11,12,13,14,15,16,17,18,19,20,21,22,23,24,25,26,27,28,29,30,31,32,33,34,35,36,37,38,39,40,41,42,43,44,45,46,47] [] (by kernel_rfl) (by kernel_rfl) ?_);simp only[pick,map_cons,map_nil,getD_cons_succ,getD_cons_zero];(repeat' (first|go_big_quiet_step (fail)|(refine wpQuiet_step (fun K hK=>?_);go_simp;(first|(refine hK _ ?_;clear hK K)|(split<;>(refine hK _ ?_;clear hK K))))));all_goals (refine wpQuiet_nil ?_;clear k m c;intro w m k;have c:=HY.out w m.out.only))|((with_reducible first|refine cU ?_|refine wU ?_);clear k m c;intro w m k;have c:=HY.out w m.out.only)|(go_roundw;(case rel=>exact⟨j,by omega,by go_num,O2.out.trans gO (by simp)⟩);(case measure=>first|(simp[intOf];done)|(simp[intOf];omega))))
    ·obtain rfl:i=l.length:=by omega
     have hlt2:decide ((l.length:Int)<(l.length:Int))=false:=by simp
     have OX:=hid (OO.out.nil_trans ho);have m:=mm0 wr [];have k:=m.out.k;clear ho;go_wp2_with (first|((with_reducible first|refine cM (HAW.out _ (OX.out.nil_trans gO)) ?_|refine cU ?_|refine wU ?_);clear k m;intro w m k)|((with_reducible refine lE (fun w o g k K hK=>⟨rfl,?_⟩));simp[results,Tryz.results3,go_sem];refine hK _ ?_;exact⟨rfl,OX.out.nil_trans o⟩))
  generalize nchkF s.sc c=e at hz HP2 ⊢;have hne:(e != 0)=true:=by simpa using hz
 rotate_left
 all_goals go_wp2_with (first|((with_reducible first|refine cM (HAW.out _ gO) ?_|refine cU ?_|refine wU ?_);clear k m;intro w m k)|((with_reducible refine lE (fun w o g k K hK=>⟨rfl,?_⟩));simp[results,Tryz.results3,go_sem];refine hK _ ?_;exact⟨rfl,o⟩))
end
section
set_option maxRecDepth 100000
open Go.ChangeShapes Go.WideShapes Go.ChangeAt Go.RowKit Go.Deep
theorem take1 {cs:List Value} {j:Nat} {v:Value} (h:cs[j]? = some v):(cs.drop j).take 1=[v]:=by
 obtain⟨hj,rfl⟩:=List.getElem?_eq_some_iff.1 h;rw[List.drop_eq_getElem_cons hj];rfl
def intField (P:Program) (f:Field):Bool:=match P.underlying f.type with
 | some (.int .i64)=>true
 | _=>false
theorem intField_of {P:Program} {f:Field} (h:intField P f=true):P.underlying f.type=some (.int .i64):=by
 unfold intField at h;split at h
 ·assumption
 ·cases h
section
variable {H:Type} {enc:TypeId × Value->H} {P:Program} {w:World}
theorem ints_of_struct {e:TypeId} {fs:Array Field} {fuel:Nat} {cs:List Value} {x:DataW H × List MemPlace} (hs:P.underlying e=some (.struct fs)) (hone:oneCellFields P fs=true) (hint:fs.all (intField P)=true) (hC:P.cellsOf e=fs.size)
  (h:DataW.trod enc P w 0 (fun _=>true) true fuel e cs=some x):∃ zs:List Int,zs.length=fs.size/\cs=zs.map (Value.int .i64)/\∀ z∈zs,(Lit.int .i64 z).wf=true:=by
 obtain⟨ys,n',_,hy,hlen,hyl,hf⟩:=DataW.trod_struct hs h;rw[hC] at hlen
 have key:∀ j (hj:j<cs.length),∃ z,cs[j]=Value.int .i64 z/\(Lit.int .i64 z).wf=true:=by
  intro j hj;have hjf:j<fs.size:=by omega
  have hfj:fs[j]? = some fs[j]:=Array.getElem?_eq_getElem hjf;obtain⟨ho,hk⟩:=hone_of hone j fs[j] hfj;have h1:=hf j fs[j] hfj;rw[ho,hk,take1 (getElem?_eq_getElem hj)] at h1;have hyj:ys[j]? = some (ys[j]'(by omega)):=getElem?_eq_getElem (by omega);rw[hyj] at h1;have hu:=intField_of (Array.all_eq_true.1 hint j hjf);obtain⟨z,hz,_,hw⟩:=DataW.trod_int hu h1;simp only[List.cons.injEq,and_true] at hz;exact⟨z,hz,hw⟩
 refine⟨cs.map fun v=>match v with | .int _ z=>z | _=>0,by simp[hlen],?_,?_⟩
 ·rw[List.map_map]
  apply List.ext_getElem (by simp)
  intro j h1 h2;obtain⟨z,hz,_⟩:=key j h1;simp[hz]
 ·intro z hz
  obtain⟨v,hv,rfl⟩:=List.mem_map.1 hz;obtain⟨j,hj,rfl⟩:=List.mem_iff_getElem.1 hv;obtain⟨z,hz,hw⟩:=key j hj;simpa [hz] using hw
end
section
variable {H:Type} {enc:TypeId × Value->H} {w:World}
theorem fld_at {P:Program} {e:TypeId} {fs:Array Field} {fuel:Nat} {cs:List Value} {x:DataW H × List MemPlace} (hs:P.underlying e=some (.struct fs)) (h:DataW.trod enc P w 0 (fun _=>true) true fuel e cs=some x)
  (j:Nat) (T:TypeId) (o k:Nat) (hf:(fs[j]?).map (fun f=>(f.type,f.offset,P.cellsOf f.type))=some (T,o,k)):∃ n y,DataW.trod enc P w 0 (fun _=>true) true n T ((cs.drop o).take k)=some y:=by
 obtain⟨ys,n,_,_,_,hyl,hfl⟩:=DataW.trod_struct hs h
 cases hj:fs[j]? with
 | none=>rw[hj] at hf;cases hf
 | some f =>
  rw[hj] at hf;simp only[Option.map_some,Option.some.injEq,Prod.mk.injEq] at hf;obtain⟨rfl,rfl,rfl⟩:=hf;have hlt:j<fs.size:=(Array.getElem?_eq_some_iff.1 hj).1;exact⟨n,ys[j]'(by omega),by rw[hfl j f hj];exact getElem?_eq_getElem _⟩
theorem cs_len {P:Program} {e:TypeId} {fs:Array Field} {fuel:Nat} {cs:List Value} {x:DataW H × List MemPlace} (hs:P.underlying e=some (.struct fs)) (h:DataW.trod enc P w 0 (fun _=>true) true fuel e cs=some x):cs.length=P.cellsOf e:=by
 obtain⟨ys,n,_,_,hl,_⟩:=DataW.trod_struct hs h;exact hl
theorem list7 {α:Type} {l:List α} (h:l.length=7):∃ a b c d e f g,l=[a,b,c,d,e,f,g]:=by
 match l,h with
 | [a,b,c,d,e,f,g],_=>exact⟨a,b,c,d,e,f,g,rfl⟩
theorem list9 {α:Type} {l:List α} (h:l.length=9):∃ a b c d e f g i j,l=[a,b,c,d,e,f,g,i,j]:=by
 match l,h with
 | [a,b,c,d,e,f,g,i,j],_=>exact⟨a,b,c,d,e,f,g,i,j,rfl⟩
theorem list5 {α:Type} {l:List α} (h:l.length=5):∃ a b c d e,l=[a,b,c,d,e]:=by
 match l,h with
 | [a,b,c,d,e],_=>exact⟨a,b,c,d,e,rfl⟩
theorem int_at {P:Program} {e:TypeId} {k:IntKind} {fuel:Nat} {v:Value} {x:DataW H × List MemPlace} (he:P.underlying e=some (.int k)) (h:DataW.trod enc P w 0 (fun _=>true) true fuel e [v]=some x):∃ z,v=.int k z/\(Lit.int k z).wf=true:=by
 obtain⟨z,h1,_,h2⟩:=DataW.trod_int he h;exact⟨z,by simpa using h1,h2⟩
theorem bool_at {P:Program} {e:TypeId} {fuel:Nat} {v:Value} {x:DataW H × List MemPlace} (he:P.underlying e=some .bool) (h:DataW.trod enc P w 0 (fun _=>true) true fuel e [v]=some x):∃ z,v=.bool z:=by
 obtain⟨z,h1,_⟩:=DataW.trod_bool he h;exact⟨z,by simpa using h1⟩
theorem slice_at {P:Program} {t e:TypeId} {fuel:Nat} {v:Value} {y:DataW H × List MemPlace} (ht:P.underlying t=some (.slice e)) (hf:DataW.trod enc P w 0 (fun _=>true) true fuel t [v]=some y) :
  ∃ a l c,v=.slice a l c/\DataW.Trod enc P w 0 (fun _=>true) true t (.slice a l c) y.1 y.2:=by
 obtain⟨a,l,c,h⟩:=Joins.slice_form ht hf;have hv:v=.slice a l c:=by simpa using h
 subst hv;exact⟨a,l,c,rfl,fuel,by simpa [Value.cells] using hf⟩
theorem arr2_at {fuel:Nat} {a b:Value} {x:DataW H × List MemPlace} (h:DataW.trod enc Tryz.prog w 0 (fun _=>true) true fuel 76 [a,b]=some x):∃ c d,a=.int .i64 c/\b=.int .i64 d:=by
 obtain⟨ys,m,_,_,_,hl,hf⟩:=DataW.trod_array Tryz.underlying76 h;have hc:Tryz.prog.cellsOf 3=1:=by kernel_rfl
 have f0:=hf 0 (by decide);have f1:=hf 1 (by decide);rw[hc] at f0 f1;have g0:ys[0]? = some (ys[0]'(by omega)):=getElem?_eq_getElem (by omega);have g1:ys[1]? = some (ys[1]'(by omega)):=getElem?_eq_getElem (by omega);obtain⟨c,hc0,_⟩:=int_at Tryz.underlying3 (f0.trans g0);obtain⟨d,hd0,_⟩:=int_at Tryz.underlying3 (f1.trans g1);exact⟨c,d,hc0,hd0⟩
theorem vrow_sgs {p:Option Addr} {n cap:Nat} {d:DataW H} {ps:List MemPlace} (h:DataW.Trod enc Tryz.prog w 0 (fun _=>true) true 49 (.slice p n cap) d ps):∃ l:List Sg,VRow sgC 2 w p n cap l:=by
 obtain⟨l,hl,_⟩:=vrow_of sgC 2 (fun _=>rfl) (by decide) (fun _=>True) Tryz.underlying49 (by kernel_rfl) h (fun fuel cs x hx=>by
  obtain⟨zs,h1,rfl,_⟩:=ints_of_struct Tryz.underlying48 (by kernel_rfl) (by kernel_rfl) (by kernel_rfl) hx;match zs,h1 with
  | [a,b],_=>exact⟨⟨a,b⟩,rfl,trivial⟩)
 exact⟨l,hl⟩
theorem vrow_chs {p:Option Addr} {n cap:Nat} {d:DataW H} {ps:List MemPlace} (h:DataW.Trod enc Tryz.prog w 0 (fun _=>true) true 77 (.slice p n cap) d ps):∃ l:List Ch,VRow chC 3 w p n cap l:=by
 obtain⟨l,hl,_⟩:=vrow_of chC 3 (fun _=>rfl) (by decide) (fun _=>True) Tryz.underlying77 (by kernel_rfl) h (fun fuel cs x hx=>by
  obtain⟨zs,h1,rfl,_⟩:=ints_of_struct Tryz.underlying237 (by kernel_rfl) (by kernel_rfl) (by kernel_rfl) hx;match zs,h1 with
  | [a,b,c],_=>exact⟨⟨a,b,c⟩,rfl,trivial⟩)
 exact⟨l,hl⟩
theorem vrow_fts {p:Option Addr} {n cap:Nat} {d:DataW H} {ps:List MemPlace} (h:DataW.Trod enc Tryz.prog w 0 (fun _=>true) true 24 (.slice p n cap) d ps):∃ l:List Ft,VRow ftC 5 w p n cap l:=by
 obtain⟨l,hl,_⟩:=vrow_of ftC 5 (fun _=>rfl) (by decide) (fun _=>True) Tryz.underlying24 (by kernel_rfl) h (fun fuel cs x hx=>by
  obtain⟨zs,h1,rfl,_⟩:=ints_of_struct Tryz.underlying44 (by kernel_rfl) (by kernel_rfl) (by kernel_rfl) hx;match zs,h1 with
  | [a,b,c,d,e],_=>exact⟨⟨a,b,c,d,e⟩,rfl,trivial⟩)
 exact⟨l,hl⟩
theorem vrow_its {p:Option Addr} {n cap:Nat} {d:DataW H} {ps:List MemPlace} (h:DataW.Trod enc Tryz.prog w 0 (fun _=>true) true 52 (.slice p n cap) d ps):∃ l:List Int,VRow itC 1 w p n cap l:=by
 obtain⟨l,hl,_⟩:=vrow_ints (k:=.i64) Tryz.underlying52 Tryz.underlying3 (by kernel_rfl) h;exact⟨l,hl⟩
theorem vrow_nds {p:Option Addr} {n cap:Nat} {d:DataW H} {ps:List MemPlace} (h:DataW.Trod enc Tryz.prog w 0 (fun _=>true) true 22 (.slice p n cap) d ps) :
  ∃ l:List NdW,VRow ndC 7 w p n cap l/\∀ x∈l,VRow sgC 2 w x.ps x.n.sg.length x.cs x.n.sg/\VRow itC 1 w x.pv x.n.sv.length x.cv x.n.sv:=
 vrow_of ndC 7 ndC_len (by decide) _ Tryz.underlying22 (by kernel_rfl) h (fun fuel cs x hx=>by
  have hs:=Tryz.underlying54;obtain⟨v0,v1,v2,v3,v4,v5,v6,rfl⟩:=list7 ((cs_len hs hx).trans (by kernel_rfl));obtain⟨n1,y1,g1⟩:=fld_at hs hx 0 51 0 2 (by kernel_rfl);obtain⟨n2,y2,g2⟩:=fld_at hs hx 1 3 2 1 (by kernel_rfl);obtain⟨n3,y3,g3⟩:=fld_at hs hx 2 4 3 1 (by kernel_rfl);obtain⟨n4,y4,g4⟩:=fld_at hs hx 3 3 4 1 (by kernel_rfl);obtain⟨n5,y5,g5⟩:=fld_at hs hx 4 3 5 1 (by kernel_rfl);obtain⟨n6,y6,g6⟩:=fld_at hs hx 5 52 6 1 (by kernel_rfl);have ho:=Tryz.underlying51;obtain⟨n7,y7,g7⟩:=fld_at ho g1 0 3 0 1 (by kernel_rfl);obtain⟨n8,y8,g8⟩:=fld_at ho g1 1 49 1 1 (by kernel_rfl);obtain⟨ph,rfl,_⟩:=int_at Tryz.underlying3 g7;obtain⟨ps,ns,cs',rfl,t1⟩:=slice_at Tryz.underlying49 g8;obtain⟨tol,rfl,_⟩:=int_at Tryz.underlying3 g2;obtain⟨rf,rfl⟩:=bool_at Tryz.underlying4 g3;obtain⟨er,rfl,_⟩:=int_at Tryz.underlying3 g4;obtain⟨st,rfl,_⟩:=int_at Tryz.underlying3 g5;obtain⟨pv,nv,cv,rfl,t2⟩:=slice_at Tryz.underlying52 g6;obtain⟨sg,r1⟩:=vrow_sgs t1;obtain⟨sv,r2⟩:=vrow_its t2;have e1:=r1.len;have e2:=r2.len;subst e1;subst e2;exact⟨⟨⟨ph,sg,tol,rf,er,st,sv⟩,ps,cs',pv,cv⟩,rfl,r1,r2⟩)
theorem vrow_lks {p:Option Addr} {n cap:Nat} {d:DataW H} {ps:List MemPlace} (h:DataW.Trod enc Tryz.prog w 0 (fun _=>true) true 23 (.slice p n cap) d ps) :
  ∃ l:List LkW,VRow lkC 9 w p n cap l/\∀ x∈l,VRow chC 3 w x.p x.l.ch.length x.c x.l.ch:=
 vrow_of lkC 9 lkC_len (by decide) _ Tryz.underlying23 (by kernel_rfl) h (fun fuel cs x hx=>by
  have hs:=Tryz.underlying81;obtain⟨v0,v1,v2,v3,v4,v5,v6,v7,v8,rfl⟩:=list9 ((cs_len hs hx).trans (by kernel_rfl));obtain⟨n0,y0,g0⟩:=fld_at hs hx 0 3 0 1 (by kernel_rfl);obtain⟨n1,y1,g1⟩:=fld_at hs hx 1 3 1 1 (by kernel_rfl);obtain⟨n2,y2,g2⟩:=fld_at hs hx 2 79 2 7 (by kernel_rfl);have ho:=Tryz.underlying79;obtain⟨n3,y3,g3⟩:=fld_at ho g2 0 76 0 2 (by kernel_rfl);obtain⟨n4,y4,g4⟩:=fld_at ho g2 1 76 2 2 (by kernel_rfl);obtain⟨n5,y5,g5⟩:=fld_at ho g2 2 3 4 1 (by kernel_rfl);obtain⟨n6,y6,g6⟩:=fld_at ho g2 3 25 5 1 (by kernel_rfl);obtain⟨n7,y7,g7⟩:=fld_at ho g2 4 77 6 1 (by kernel_rfl);obtain⟨A,rfl,_⟩:=int_at Tryz.underlying3 g0;obtain⟨B,rfl,_⟩:=int_at Tryz.underlying3 g1;obtain⟨d0,d1,q0,q1⟩:=arr2_at g3;obtain⟨e0,e1,q2,q3⟩:=arr2_at g4;subst q0;subst q1;subst q2;subst q3;obtain⟨lo,rfl,_⟩:=int_at Tryz.underlying3 g5;obtain⟨sd,rfl,_⟩:=int_at Tryz.underlying25 g6;obtain⟨pc,nc,cc,rfl,t1⟩:=slice_at Tryz.underlying77 g7;obtain⟨ch,r1⟩:=vrow_chs t1;have e2:=r1.len;subst e2;exact⟨⟨⟨A,B,d0,d1,e0,e1,lo,sd,ch⟩,pc,cc⟩,rfl,r1⟩)
theorem scene_of {r:Reach} {b0:Nat} {v:Value} {d:DataW H} {p:List MemPlace} (hv:Value.okWide Tryz.prog w r b0 27 v) (h:DataW.Trod enc Tryz.prog w 0 (fun _=>true) true 27 v d p):∃ s:ScW,v=scnV s/\s.Ok0 w:=by
 have hs:=Tryz.underlying27;obtain⟨cs,rfl,hsz⟩:=okWide_struct hs hv;obtain⟨fuel,hx⟩:=h;have hx:DataW.trod enc Tryz.prog w 0 (fun _=>true) true fuel 27 cs.toList=some (d,p):=hx;obtain⟨v0,v1,v2,v3,v4,hcs⟩:=list5 ((cs_len hs hx).trans (by kernel_rfl));rw[hcs] at hx;obtain⟨n0,y0,g0⟩:=fld_at hs hx 0 22 0 1 (by kernel_rfl);obtain⟨n1,y1,g1⟩:=fld_at hs hx 1 23 1 1 (by kernel_rfl);obtain⟨n2,y2,g2⟩:=fld_at hs hx 2 24 2 1 (by kernel_rfl);obtain⟨n3,y3,g3⟩:=fld_at hs hx 3 3 3 1 (by kernel_rfl);obtain⟨n4,y4,g4⟩:=fld_at hs hx 4 25 4 1 (by kernel_rfl);obtain⟨pn,ln,cn,rfl,t0⟩:=slice_at Tryz.underlying22 g0;obtain⟨pl,ll,cl,rfl,t1⟩:=slice_at Tryz.underlying23 g1;obtain⟨pf,lf,cf,rfl,t2⟩:=slice_at Tryz.underlying24 g2;obtain⟨un,rfl,_⟩:=int_at Tryz.underlying3 g3;obtain⟨sd,rfl,_⟩:=int_at Tryz.underlying25 g4;obtain⟨nd,r0,q0⟩:=vrow_nds t0;obtain⟨lk,r1,q1⟩:=vrow_lks t1;obtain⟨ft,r2⟩:=vrow_fts t2;have e0:=r0.len;have e1:=r1.len;have e2:=r2.len;subst e0;subst e1;subst e2;refine⟨⟨nd,lk,ft,un,sd,pn,cn,pl,cl,pf,cf⟩,?_,⟨r0,r1,r2,q0,q1⟩⟩;unfold scnV;congr 1
 exact Array.ext' hcs
theorem open_conf {r:Reach} {b0:Nat} {v:Value} {d:DataW H} {ps:List MemPlace} (hval:Value.okWide Tryz.prog w r b0 31 v) (h:DataW.Trod enc Tryz.prog w 0 (fun _=>true) true 31 v d ps):∃ c:Cf,v=cfV c:=by
 obtain⟨cs,rfl,hsz⟩:=okWide_struct Tryz.underlying31 hval;obtain⟨m,hx⟩:=h;have hs:=Tryz.underlying31;obtain⟨l⟩:=cs;have hl:l.length=12:=(cs_len hs hx).trans (by kernel_rfl);match l,hl,hx with
 | [v0,v1,v2,v3,v4,v5,v6,v7,v8,v9,v10,v11],_,hx =>
  simp only[Value.cells] at hx;obtain⟨n0,y0,g0⟩:=fld_at hs hx 0 3 0 1 (by kernel_rfl);obtain⟨n1,y1,g1⟩:=fld_at hs hx 1 3 1 1 (by kernel_rfl);obtain⟨n2,y2,g2⟩:=fld_at hs hx 2 3 2 1 (by kernel_rfl);obtain⟨n3,y3,g3⟩:=fld_at hs hx 3 3 3 1 (by kernel_rfl);obtain⟨n4,y4,g4⟩:=fld_at hs hx 4 29 4 5 (by kernel_rfl);obtain⟨n5,y5,g5⟩:=fld_at hs hx 5 3 9 1 (by kernel_rfl);obtain⟨n6,y6,g6⟩:=fld_at hs hx 6 3 10 1 (by kernel_rfl);obtain⟨n7,y7,g7⟩:=fld_at hs hx 7 3 11 1 (by kernel_rfl);obtain⟨z0,rfl,_⟩:=int_at Tryz.underlying3 g0;obtain⟨z1,rfl,_⟩:=int_at Tryz.underlying3 g1;obtain⟨z2,rfl,_⟩:=int_at Tryz.underlying3 g2;obtain⟨z3,rfl,_⟩:=int_at Tryz.underlying3 g3;obtain⟨z5,rfl,_⟩:=int_at Tryz.underlying3 g5;obtain⟨z6,rfl,_⟩:=int_at Tryz.underlying3 g6;obtain⟨z7,rfl,_⟩:=int_at Tryz.underlying3 g7;have hv:=Tryz.underlying29;obtain⟨_,_,i0⟩:=fld_at hv g4 0 3 0 1 (by kernel_rfl);obtain⟨s0,rfl,_⟩:=int_at Tryz.underlying3 i0;obtain⟨_,_,i1⟩:=fld_at hv g4 1 3 1 1 (by kernel_rfl);obtain⟨s1,rfl,_⟩:=int_at Tryz.underlying3 i1;obtain⟨_,_,i2⟩:=fld_at hv g4 2 3 2 1 (by kernel_rfl);obtain⟨s2,rfl,_⟩:=int_at Tryz.underlying3 i2;obtain⟨_,_,i3⟩:=fld_at hv g4 3 3 3 1 (by kernel_rfl);obtain⟨s3,rfl,_⟩:=int_at Tryz.underlying3 i3;obtain⟨_,_,i4⟩:=fld_at hv g4 4 3 4 1 (by kernel_rfl);obtain⟨s4,rfl,_⟩:=int_at Tryz.underlying3 i4;exact⟨⟨z0,z1,z2,z3,⟨s0,s1,s2,s3,s4⟩,z5,z6,z7⟩,rfl⟩
end
theorem rnds_of {W:World} (h:W.ShapedOpen Tryz.prog):∃ R,Rnds W R:=by
 obtain⟨zero,hz⟩:∃ zero,((begin Tryz.prog (fun _ _=>0) default).world.heap[(2:Nat)]?).bind Obj.row? = some (zero,301)/\zero.size=6:=⟨#[.int .u64 0,.int .u64 0,.int .u64 0,.int .u64 0,.int .u64 0,.int .u64 0],by kernel_rfl,rfl⟩;obtain⟨cs,hh,hs,hr⟩:=h.1 2 zero 301 (by decide +kernel) hz.1;obtain⟨ts,hts,_,hall⟩:=hr (by kernel_rfl);have hts2:Tryz.prog.cellTypes Tryz.prog.depth 301=some [232,25,232,25,232,25]:=by kernel_rfl
 rw[hts2] at hts
 cases hts
 rw[hz.2] at hs
 have key:∀ i (hi:i<6),∃ n,cs[i]? = some (.int .u64 n)/\0<=n:=fun i hi=>by
  have h1:i<cs.size:=by omega
  obtain⟨u,hu,hok⟩:=hall i cs[i] (by simp[h1])
  have hu2:Tryz.prog.underlying u=some (.int .u64):=by
   have e:i=0∨i=1∨i=2∨i=3∨i=4∨i=5:=by omega
   have e2:u=232∨u=25:=by
    rcases e with rfl|rfl|rfl|rfl|rfl|rfl
    ·exact .inl (by simpa using hu.symm)
    ·exact .inr (by simpa using hu.symm)
    ·exact .inl (by simpa using hu.symm)
    ·exact .inr (by simpa using hu.symm)
    ·exact .inl (by simpa using hu.symm)
    ·exact .inr (by simpa using hu.symm)
   rcases e2 with rfl|rfl
   ·exact Tryz.underlying232
   ·exact Tryz.underlying25
  unfold Cell.ok at hok;rw[hu2] at hok;rw[Array.getElem?_eq_getElem h1]
  cases hv:cs[i]<;>rw[hv] at hok<;>simp at hok
  case int k' n =>
   obtain⟨rfl,hn⟩:=hok;refine⟨n,rfl,?_⟩;have:=hn.1;simpa [IntKind.min,IntKind.signed] using this
 obtain⟨s0,e0,z0⟩:=key 0 (by omega);obtain⟨m0,e1,_⟩:=key 1 (by omega);obtain⟨s1,e2,z1⟩:=key 2 (by omega);obtain⟨m1,e3,_⟩:=key 3 (by omega);obtain⟨s2,e4,z2⟩:=key 4 (by omega);obtain⟨m2,e5,_⟩:=key 5 (by omega);refine⟨[(s0,m0),(s1,m1),(s2,m2)],s0,m0,s1,m1,s2,m2,rfl,z0,z1,z2,?_⟩;rw[hh];congr 2
 apply Array.ext (by simpa using hs)
 intro i h1 h2;have e:i=0∨i=1∨i=2∨i=3∨i=4∨i=5:=by omega
 rw[Array.getElem?_eq_some_iff] at e0 e1 e2 e3 e4 e5;rcases e with rfl|rfl|rfl|rfl|rfl|rfl
 ·exact e0.2
 ·exact e1.2
 ·exact e2.2
 ·exact e3.2
 ·exact e4.2
 ·exact e5.2
end
section
set_option maxRecDepth 100000
open Go.ChangeShapes Go.WideShapes Go.ChangeAt Go.RowKit Go.Deep
theorem netsimRises_lifted (os:Os) (started:os.Started) (H:Type) (enc:TypeId × Value->H) :
  ReturnsInHanded {} Tryz.checked os 3 .any (Rows.netsimRisesSpec.pre6 enc Tryz.prog Tryz.f3 Rows.netsimRisesRow.domain false) (Rows.netsimRisesSpec.post enc Tryz.prog Tryz.f3 false true false false):=by
 refine returnsInHanded_of_change_shaped (C:=Tryz.checked) law_own started (by kernel_rfl) Tryz.func3
  (ChangeSpec.witness6 (enc:=enc) (C:=Tryz.checked) false ⟨#[],#[.agg #[.slice none 0 0,.slice none 0 0,.slice none 0 0,.int .i64 0,.int .u64 0],.agg #[.int .i64 0,.int .i64 0,.int .i64 0,.int .i64 0,.int .i64 0,.int .i64 0,.int .i64 0,.int .i64 0,.int .i64 0,.int .i64 0,.int .i64 0,.int .i64 0]],[]⟩ 8 (by kernel_rfl) (by kernel_rfl) (by kernel_rfl) (by kernel_rfl)) ?_
 intro W base args ds gs before hval0 hW hcnd _ hsh _;have hval:∀ (j:Nat) t v,Tryz.f3.params[j]? = some t->args[j]? = some v->Value.okWide Tryz.prog W .any base t v:=hval0;have hW':=hW;obtain⟨p,q,hA0,hV,rfl,hfz,hnd⟩:=hW;have hA:DataW.TrodAll enc Tryz.prog W 0 (fun _=>true) true Tryz.f3.params.toList args.toList ds p:=hA0;rw[Tryz.params3] at hA hval;obtain⟨v0,vs0,d0,ds0,p0,q0,hargs,rfl,rfl,h0,r0⟩:=trodAll_cons hA;obtain⟨v1,vs1,d1,ds1,p1,q1,rfl,rfl,rfl,h1,r1⟩:=trodAll_cons r0;obtain⟨rfl,rfl,rfl⟩:=trodAll_nil r1;obtain rfl:args=#[v0,v1]:=by cases args;simp_all
 obtain⟨rfl,rfl⟩:=trodVars_none hV;have k0:=h0;have lt0:∀ x∈p0,x.block<W.heap.size:=by obtain⟨m,hm⟩:=k0;exact DataW.trod_lt m _ _ _ hm
 obtain⟨s0,rfl,g0⟩:=scene_of (hval 0 27 v0 rfl rfl) h0;have k1:=h1;have lt1:∀ x∈p1,x.block<W.heap.size:=by obtain⟨m,hm⟩:=k1;exact DataW.trod_lt m _ _ _ hm
 obtain⟨c1,rfl⟩:=open_conf (hval 1 31 v1 rfl rfl) h1;clear hA0 hval0;obtain⟨R,hR⟩:=rnds_of hsh;refine (pNRises s0 c1 g0 hR).mono fun e W' ⟨he,ho⟩=>?_;subst he;have bel:Below W.heap.size W W':=ho.nil_below;exact⟨_,rfl,_,_,_,[],_,[],hW',trodAll_mk1 (shut_bool Tryz.underlying4 _),(trodAll_cons_mk (Below.trod law_laidOut (by kernel_rfl) (of_decide_eq_true (by kernel_rfl)) k0 bel lt0) (trodAll_cons_mk (Below.trod law_laidOut (by kernel_rfl) (of_decide_eq_true (by kernel_rfl)) k1 bel lt1) trodAll_mk0)),rfl,bel.frame _,fun h=>by cases h⟩
theorem netsimRises_fact1:Tryz.pinned.checked.prog.funcNamed Rows.netsimRisesRow.func=some 3:=by kernel_rfl
theorem netsimRises_fact2:joinedFacts Tryz.pinned.checked.prog 3 Tryz.f3 Rows.netsimRisesSpec Rows.netsimRisesRow=true:=by kernel_rfl
theorem netsimRises_fact3:(Tryz.f3).isInstance Tryz.pinned.checked.prog Rows.netsimRisesRow.origin Rows.netsimRisesRow.targs:=of_decide_eq_true (by kernel_rfl)
theorem netsimRises_fact4:(Tryz.f3).isWrapper Tryz.pinned.checked.prog Rows.netsimRisesRow.wrapper Rows.netsimRisesRow.mainSum:=by unfold Func.isWrapper;first|(rw[if_pos (by decide +kernel)];kernel_rfl)|(rw[if_neg (by decide +kernel)];exact⟨rfl,rfl⟩)
theorem netsimRises_over:Rows.netsimRisesRow.holds Tryz.pinned (OpenSpec.ofChange Rows.netsimRisesSpec):=
 OpenClaim.holds_of_wide 3 Tryz.f3 rfl rfl rfl rfl rfl rfl rfl ⟨rfl,rfl,rfl,rfl,rfl⟩ rfl rfl rfl rfl rfl netsimRises_fact1 Tryz.func3 netsimRises_fact2 netsimRises_fact3 netsimRises_fact4
  (fun os started H enc _=>netsimRises_lifted os started H enc)
theorem netsimRises_holds:Rows.NetsimRisesSaid:=netsimRises_over
end
end Go.Proofs.YtppjhbjmfkiejaaGreat
