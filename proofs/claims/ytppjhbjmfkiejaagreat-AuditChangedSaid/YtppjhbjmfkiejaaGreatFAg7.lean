/- Ag7 Ag8 Ag9 AgG Tw Tv S1 S2 S3 S5 S6 S7 -/
import Derived.Test.YtppjhbjmfkiejaaGreatFAg3
import Derived.Lib.Split
import Derived.Lib.IndexMore
import Derived.Lib.AtoiAllCases
import Derived.Lib.ItoaMem
import Derived.Lib.ItoaLen
import Derived.Lib.Atoi
import Derived.Test.YtppjhbjmfkiejaaGreatFV1
import Derived.Deep.Cut
namespace Go.Proofs.YtppjhbjmfkiejaaGreat
set_option maxRecDepth 100000
set_option maxHeartbeats 4000000
open IntKind (wrap)
section
open Go.RowKit
structure D5 (w:World) (q:Nat) (F:List Nat) (lim tm pu:Int) (l:List Ev):Prop where
 rep:oD w q F (.int .i64 lim) (.int .i64 tm) (.int .i64 pu) l
 heap:Heap l.length (el l)
 ids:∀ e∈l,1<=e.i/\e.i<=pu
 le:(l.length:Int)<=lim
 lim0:lim<=4096
theorem oD.list {w:World} {q:Nat} {F:List Nat} {a2 a3 a4:Value} {l:List Ev} (h:oD w q F a2 a3 a4 l) :
  ∃ p cap m,w.heap[q]? = some (.cells #[.slice p l.length cap,.map m,a2,a3,a4] 164 (0,0))/\l.length<=1000000 /\
   (∀ i e,l[i]? = some e->∃ g,p=some ⟨g,0,none⟩/\g<w.heap.size/\w.cell? ⟨g,i*3,none⟩=some (.int .i64 e.t)/\w.cell? ⟨g,i*3+1,none⟩=some (.int .i64 e.i)/\w.cell? ⟨g,i*3+2,none⟩=some (.int .i64 e.x)):=by
 rcases h with ⟨_,rfl,h⟩|⟨g,cap,b,_,h⟩
 ·exact⟨none,0,none,h,by simp,by simp⟩
 ·refine⟨some ⟨g,0,none⟩,cap,some b,h.qc,h.le,fun i e hi=>⟨g,rfl,h.row.lt,?_,?_,?_⟩⟩
  ·exact h.row.cell cB hi (j:=0) (by omega)
  ·exact h.row.cell cB hi (j:=1) (by omega)
  ·exact h.row.cell cB hi (j:=2) (by omega)
theorem oD.kept {w w':World} {S:List Nat} {q:Nat} {F:List Nat} {a2 a3 a4:Value} {l:List Ev} (h:oD w q F a2 a3 a4 l) (ho:Oy S w w') (hF:∀ k∈F,k ∉ S):oD w' q F a2 a3 a4 l:=by
 rcases h with ⟨rfl,rfl,h⟩|⟨g,cap,b,rfl,h⟩
 ·exact .inl ⟨rfl,rfl,ho.got h (hF q (by simp))⟩
 ·exact .inr ⟨g,cap,b,rfl,h.kept ho (hF q (by simp)) (hF g (by simp)) (hF b (by simp))⟩
theorem D5.kept {w w':World} {S:List Nat} {q:Nat} {F:List Nat} {lim tm pu:Int} {l:List Ev} (h:D5 w q F lim tm pu l) (ho:Oy S w w') (hF:∀ k∈F,k ∉ S):D5 w' q F lim tm pu l:=
 ⟨h.rep.kept ho hF,h.heap,h.ids,h.le,h.lim0⟩
theorem D5.blocks {w:World} {q:Nat} {F:List Nat} {lim tm pu:Int} {l:List Ev} (h:D5 w q F lim tm pu l):∀ k∈F,k<w.heap.size:=by
 rcases h.rep with ⟨rfl,_,h'⟩|⟨g,cap,b,rfl,h'⟩
 ·intro k hk;simp at hk;subst hk;exact aF h'
 ·intro k hk
  simp at hk;rcases hk with rfl|rfl|rfl
  ·exact aF h'.qc
  ·exact h'.row.lt
  ·obtain⟨D,hD,_⟩:=h'.map;exact World.ownsMap.lt hD
theorem new_ok (lim:Int) (w:World) (h1:1<=lim) (h2:lim<=4096) :
  Calls Tryz.prog 40 #[.int .i64 lim] w fun e w'=>e=.returned (.pointer (some ⟨w.heap.size,0,none⟩))/\D5 w' w.heap.size [w.heap.size] lim 0 0 []/\Oy [] w w':=by
 go_enter Tryz.func40,Tryz.ntmps40
 go_wp2;go_ret
 refine⟨rfl,⟨.inl ⟨rfl,rfl,bG _ _⟩,fun j h1 h2=>by simp at h2,by simp,by simp;omega,h2⟩,(aR [] w).alloc _⟩
theorem zT {w:World} {q:Nat} {F:List Nat} {a2 a3 a4:Value} {l:List Ev} (h:oD w q F a2 a3 a4 l) :
  Calls Tryz.prog 83 #[.pointer (some ⟨q,0,none⟩)] w fun e w'=>e=.returned (.int .i64 l.length)/\w=w':=by
 obtain⟨p,cap,m,hq,hle,hel⟩:=h.list;clear hel h;have c0:=aC hq 0;clear hq;go_enter Tryz.func83,Tryz.ntmps83
 go_wp2;go_ret
 exact⟨rfl,rfl⟩
abbrev evv (e:Ev):Value:=.agg #[.int .i64 e.t,.int .i64 e.i,.int .i64 e.x]
theorem TP {w:World} {q:Nat} {F:List Nat} {a2 a3 a4:Value} {l:List Ev} (h:oD w q F a2 a3 a4 l) (hl:0<l.length) :
  Calls Tryz.prog 70 #[.pointer (some ⟨q,0,none⟩)] w fun e w'=>e=.returned (.tuple #[evv (el l 0),.bool true])/\Oy [] w w':=by
 obtain⟨p,cap,m,hq,hle,hel⟩:=h.list;obtain⟨g,rfl,hgs,r0,r1,r2⟩:=hel 0 _ (cZ hl);clear hel;simp only[Nat.zero_mul,Nat.zero_add] at r0 r1 r2;have hqs:=aF hq;have c0:=aC hq 0;have H:=aA h;clear h hq;have hne:((l.length:Int) == 0)=false:=by rw[beq_eq_false_iff_ne];omega
 go_enter Tryz.func70,Tryz.ntmps70
 go_wp2_with fail
 refine (zT (H.out.kept (S:=[]) ((aR [] w).alloc _) (by simp))).mono ?_;rintro e w1 ⟨rfl,rfl⟩;go_wp2;refine bodyPost_ret (v:=.tuple #[evv (el l 0),.bool true]) (by simp[results,Tryz.results70,go_sem]) rfl ⟨rfl,?_⟩;exact (aR [] w).alloc _
theorem TQ {w:World} {q:Nat} {F:List Nat} {a2 a3 a4:Value} (h:oD w q F a2 a3 a4 []) :
  Calls Tryz.prog 70 #[.pointer (some ⟨q,0,none⟩)] w fun e w'=>e=.returned (.tuple #[evv ⟨0,0,0⟩,.bool false])/\Oy [] w w':=by
 have H:=aA h;clear h;go_enter Tryz.func70,Tryz.ntmps70
 go_wp2_with fail
 refine (zT (H.out.kept (S:=[]) ((aR [] w).alloc _) (by simp))).mono ?_;rintro e w1 ⟨rfl,rfl⟩;go_wp2;refine bodyPost_ret (v:=.tuple #[evv ⟨0,0,0⟩,.bool false]) (by simp[results,Tryz.results70,go_sem]) rfl ⟨rfl,?_⟩;exact (aR [] w).alloc _
end
section
open Go.RowKit
theorem D5.cells {w:World} {q:Nat} {F:List Nat} {lim tm pu:Int} {l:List Ev} (h:D5 w q F lim tm pu l) :
  w.cell? ⟨q,2,none⟩=some (.int .i64 lim)/\w.cell? ⟨q,3,none⟩=some (.int .i64 tm)/\w.cell? ⟨q,4,none⟩=some (.int .i64 pu)/\(∀ o,w.frozen? ⟨q,o,none⟩=false)/\q<w.heap.size:=by
 obtain⟨p,cap,m,hq,_⟩:=h.rep.list;exact⟨aC hq 2,aC hq 3,aC hq 4,aM hq,aF hq⟩
theorem jD.WX {w:World} {q g cap b:Nat} {a2 a3 a4:Value} {l:List Ev} (h:jD w q g cap b a2 a3 a4 l) (v:Value):jD (w.setCell ⟨q,4,none⟩ v) q g cap b a2 a3 v l:=by
 have ho:Oy [q] w (w.setCell ⟨q,4,none⟩ v):=(aR [q] w).setCell (by simp) _;obtain⟨D,hD,r⟩:=h.map;exact⟨aH _ h.qc,h.row.kept ho (by simpa using h.qg.symm),⟨D,iE.kept hD ho (by simpa using h.bg.2),r⟩,h.qg,h.le⟩
theorem jD.set3 {w:World} {q g cap b:Nat} {a2 a3 a4:Value} {l:List Ev} (h:jD w q g cap b a2 a3 a4 l) (v:Value):jD (w.setCell ⟨q,3,none⟩ v) q g cap b a2 v a4 l:=by
 have ho:Oy [q] w (w.setCell ⟨q,3,none⟩ v):=(aR [q] w).setCell (by simp) _;obtain⟨D,hD,r⟩:=h.map;exact⟨aH _ h.qc,h.row.kept ho (by simpa using h.qg.symm),⟨D,iE.kept hD ho (by simpa using h.bg.2),r⟩,h.qg,h.le⟩
theorem oD.WX {w:World} {q:Nat} {F:List Nat} {a2 a3 a4:Value} {l:List Ev} (h:oD w q F a2 a3 a4 l) (v:Value):oD (w.setCell ⟨q,4,none⟩ v) q F a2 a3 v l:=by
 rcases h with ⟨rfl,rfl,h⟩|⟨g,cap,b,rfl,h⟩
 ·exact .inl ⟨rfl,rfl,aH _ h⟩
 ·exact .inr ⟨g,cap,b,rfl,h.WX v⟩
theorem oD.qF {w:World} {q:Nat} {F:List Nat} {a2 a3 a4:Value} {l:List Ev} (h:oD w q F a2 a3 a4 l):q∈F:=by
 rcases h with ⟨rfl,_,_⟩|⟨g,cap,b,rfl,_⟩<;>simp
theorem MW (q:Nat) (at_ item:Int) (w:World) (h:at_<0) :
  Calls Tryz.prog 69 #[.pointer (some ⟨q,0,none⟩),.int .i64 at_,.int .i64 item] w fun e w'=>e=.returned (.tuple #[.int .i64 0,.int .i64 3])/\w=w':=by
 go_enter Tryz.func69,Tryz.ntmps69
 go_wp2;go_ret2;exact⟨rfl,rfl⟩
theorem MX {w:World} {q:Nat} {F:List Nat} {lim tm pu:Int} {l:List Ev} (h:D5 w q F lim tm pu l) (at_ item:Int) (h0:0<=at_) (h1:at_<tm) :
  Calls Tryz.prog 69 #[.pointer (some ⟨q,0,none⟩),.int .i64 at_,.int .i64 item] w fun e w'=>e=.returned (.tuple #[.int .i64 0,.int .i64 12])/\w=w':=by
 obtain⟨c2,c3,c4,hf,hqs⟩:=h.cells;clear h hf c2 c4;go_enter Tryz.func69,Tryz.ntmps69
 go_wp2;go_ret2;exact⟨rfl,rfl⟩
theorem TJ {w:World} {q:Nat} {F:List Nat} {lim tm pu:Int} {l:List Ev} (h:D5 w q F lim tm pu l) (at_ item:Int) (h0:0<=at_) (h1:tm<=at_) (h2:lim<=l.length) :
  Calls Tryz.prog 69 #[.pointer (some ⟨q,0,none⟩),.int .i64 at_,.int .i64 item] w fun e w'=>e=.returned (.tuple #[.int .i64 0,.int .i64 13])/\Oy [] w w':=by
 obtain⟨c2,c3,c4,hf,hqs⟩:=h.cells;have H:=aA h;clear h hf c4;go_enter Tryz.func69,Tryz.ntmps69
 go_wp2;refine aP [0,1,2,3,4,5,6,7] [] (by kernel_rfl) (by kernel_rfl) ?_;simp only[bV];iterate 1 (refine wpQuiet_step (fun K hK=>?_);go_simp;refine hK _ ?_;clear hK K)
 refine gF rfl 83 #[.pointer (some ⟨q,0,none⟩)] (fun _=>by kernel_rfl) (.int .i64 l.length) (gL fun w' hw'=>(zT (H.out.rep.kept (aN hw') (by simp))).mono fun e w'' ⟨he,hw''⟩=>⟨he,hw'' ▸ Below.refl _ _⟩) ?_;iterate 6 (refine wpQuiet_step (fun K hK=>?_);go_simp;refine hK _ ?_;clear hK K)
 refine wpQuiet_nil ?_;intro w1 hw1;have ho1:=aN hw1;clear hw1;go_wp2;go_ret2;exact⟨rfl,ho1⟩
theorem XW {w:World} {q:Nat} {F:List Nat} {lim tm pu:Int} {l:List Ev} (h:D5 w q F lim tm pu l) (at_ item:Int) (h0:0<=at_) (h1:tm<=at_) (h2:l.length<lim) (hp0:0<=pu) (hp1:pu<=1000000000) :
  Calls Tryz.prog 69 #[.pointer (some ⟨q,0,none⟩),.int .i64 at_,.int .i64 item] w fun e w'=>e=.returned (.tuple #[.int .i64 (pu+1),.int .i64 0]) /\
   ∃ F' l',D5 w' q F' lim tm (pu+1) l'/\Oy F w w'/\(∀ k∈F',k∈F\/w.heap.size<=k)/\l'.length=l.length+1/\∀ e,e∈l'↔e=⟨at_,pu+1,item⟩\/e∈l:=by
 obtain⟨c2,c3,c4,hf,hqs⟩:=h.cells;have hl0:=h.lim0;have H:=aA h;clear h;go_enter Tryz.func69,Tryz.ntmps69
 go_wp2;refine aP [0,1,2,3,4,5,6,7] [] (by kernel_rfl) (by kernel_rfl) ?_;simp only[bV];iterate 1 (refine wpQuiet_step (fun K hK=>?_);go_simp;refine hK _ ?_;clear hK K)
 refine gF rfl 83 #[.pointer (some ⟨q,0,none⟩)] (fun _=>by kernel_rfl) (.int .i64 l.length) (gL fun w' hw'=>(zT (H.out.rep.kept (aN hw') (by simp))).mono fun e w'' ⟨he,hw''⟩=>⟨he,hw'' ▸ Below.refl _ _⟩) ?_;iterate 6 (refine wpQuiet_step (fun K hK=>?_);go_simp;refine hK _ ?_;clear hK K)
 refine wpQuiet_nil ?_;intro w1 hw1;have ho1:=aN hw1;clear hw1;have hq1:=H.out.kept ho1 (by simp);clear c2 c3 c4 hf hqs;obtain⟨c2,c3,c4,hf,hqs⟩:=hq1.cells;have f4:=hf 4;clear hf c2 c3;have HQ1:=aA hq1;clear hq1;go_wp2;refine kZ (G:=Code.wp _ _ _ _) (R:=fun w2=>oD w2 q F (.int .i64 lim) (.int .i64 tm) (.int .i64 (pu+1)) l/\Oy [q] w1 w2) ⟨HQ1.out.rep.WX _,(aR [q] w1).setCell (by simp) _⟩ ?_;rintro w2 ⟨hq2,ho2⟩;clear c4 f4 hqs;obtain⟨p,cap,m,hqc,_⟩:=hq2.list;have c4:=aC hqc 4;have hqs:=aF hqc;have HQ2:=aA hq2;have HQC:=aA hqc;clear hq2 hqc;refine aP [0,1,2,3,4,5,6,7,8,9,10] [11] (by kernel_rfl) (by kernel_rfl) ?_;simp only[bV];iterate 11 (refine wpQuiet_step (fun K hK=>?_);go_simp;refine hK _ ?_;clear hK K)
 refine wpQuiet_nil ?_;intro w3 hw3;have ho3:=aN hw3;clear hw3;clear c4 hqs;have hwf:(Lit.int .i64 (pu+1)).wf=true:=WalkArith.wf_i64 (by omega);have hids:∀ e∈l,e.i≠pu+1:=fun e he=>by have:=H.out.ids e he;omega
 have HID:=aA hids;clear hids;go_wp2_with fail
 refine (X0 (HQ2.out.kept ho3 (by simp)) ⟨at_,pu+1,item⟩ HID.out hwf (by omega) H.out.heap).mono ?_;rintro e w4 ⟨rfl,F',l',hq4,ho4,hF4,hl4,hh4,hm4⟩;obtain⟨p4,cap4,m4,hqc4,_⟩:=hq4.list;have c4:=aC hqc4 4;have HQ4:=aA hq4;have HF4:=aA hF4;have HL4:=aA hl4;have HH4:=aA hh4;have HM4:=aA hm4;clear hq4 hqc4 hF4 hl4 hh4 hm4;go_wp2;go_ret2;have hs:w.heap.size<=w3.heap.size:=by have:=ho1.size;have:=ho2.size;have:=ho3.size;omega
 have o2:Oy F w w2:=(ho1.weak (S':=F) (by simp)).trans ho2 (by intro k hk;simp at hk;subst hk;exact .inl H.out.rep.qF);refine⟨rfl,F',l',⟨HQ4.out,HH4.out,?_,?_,hl0⟩,(o2.aB ho3).trans ho4 (fun _ h=>.inl h),?_,HL4.out,HM4.out⟩
 ·intro e he
  rcases (HM4.out e).1 he with rfl|h
  ·exact⟨by simp;omega,by simp⟩
  ·have:=H.out.ids e h;omega
 ·rw[HL4.out];omega
 ·intro k hk
  rcases HF4.out k hk with h|h
  ·exact .inl h
  ·exact .inr (by omega)
end
section
open Go.RowKit
theorem oD.hrep {w:World} {q:Nat} {F:List Nat} {a2 a3 a4:Value} {l:List Ev} (h:oD w q F a2 a3 a4 l) (hl:0<l.length):∃ g cap b,F=[q,g,b]/\jD w q g cap b a2 a3 a4 l:=by
 rcases h with ⟨_,rfl,_⟩|h
 ·simp at hl
 ·exact h
theorem X5 {w:World} {q:Nat} {F:List Nat} {lim tm pu:Int} {l:List Ev} (h:D5 w q F lim tm pu l) (hl:0<l.length) :
  Calls Tryz.prog 46 #[.pointer (some ⟨q,0,none⟩)] w fun e w'=>e=.returned (.tuple #[evv (el l 0),.bool true]) /\
   ∃ l',D5 w' q F lim (el l 0).t pu l'/\Oy F w w'/\l'.length+1=l.length/\∀ e,e∈l'↔e∈l/\e.i≠(el l 0).i:=by
 have H:=aA h;clear h;go_enter Tryz.func46,Tryz.ntmps46
 go_wp2_with fail
 refine (TP (H.out.rep.kept (S:=[]) ((aR [] w).alloc _) (by simp)) hl).mono ?_;rintro e w1 ⟨rfl,ho1⟩;have hr:w1.heap[w.heap.size]? = some (.cells #[.int .i64 0,.int .i64 0,.int .i64 0] 136 (0,0)):=ho1.got (bG _ _) (by simp);have ho1':Oy [] w w1:=Oy.aB ((aR [] w).alloc _) ho1;clear ho1;have HRS:=aA hr;clear hr;obtain⟨g,cap,b,hF,hrep⟩:=H.out.rep.hrep hl;have HRP:=aA hrep;have HFF:=aA hF;clear hrep hF;have hws:=aF HRS.out;have hFs:=H.out.blocks;rw[HFF.out] at hFs;have hqs:q<w.heap.size:=hFs q (by simp);have hgs:g<w.heap.size:=hFs g (by simp);have hbs:b<w.heap.size:=hFs b (by simp);clear hFs;go_wp2_with fail
 refine aG (G:=fun w0=>Calls _ _ _ w0 _) ?_;intro w2 hb2 ho2 hs2;have HB2:=aA hb2;have HS2:=aA hs2;clear hb2 hs2;have hs12:w1.heap.size<w2.heap.size:=by have:=HS2.out;omega
 show Calls _ _ #[_,.int .i64 ((0:Nat):Int)] _ _
 refine (MV (HRP.out.kept (ho1'.aB ho2) (by simp) (by simp) (by simp)) hl H.out.heap).mono ?_;rintro e w3 ⟨rfl,l',hrep3,ho3,hl3,hh3,hm3⟩;have hb3:=ho3.got HB2.out (by simp;omega);have hr3:=ho3.got (ho2.got HRS.out (by simp)) (by simp;omega);have e0:=aC hb3 0;have e1:=aC hb3 1;have e2:=aC hb3 2;have r0:=aC hr3 0;have r1:=aC hr3 1;have r2:=aC hr3 2;have f0:=aM hr3 0;have f1:=aM hr3 1;have f2:=aM hr3 2;have q3:=aC hrep3.qc 3;have fq:=aM hrep3.qc 3;have n1:q≠w.heap.size:=by omega
 have n2:q≠w1.heap.size:=by omega
 have n3:w.heap.size≠w1.heap.size:=by omega
 have n4:w.heap.size≠q:=by omega
 have n5:w1.heap.size≠q:=by omega
 have n6:w1.heap.size≠w.heap.size:=by omega
 have HR3:=aA hrep3;have HL3:=aA hl3;have HH3:=aA hh3;have HM3:=aA hm3;have HRR:=aA hr3;clear hrep3 hl3 hh3 hm3 hb3 hr3;go_wp2;refine kZ (G:=bodyPost _ _ _ _ _) (R:=fun wf=>jD wf q g cap b (.int .i64 lim) (.int .i64 (el l 0).t) (.int .i64 pu) l'/\wf.heap[w.heap.size]? = some (.cells #[.int .i64 (el l 0).t,.int .i64 (el l 0).i,.int .i64 (el l 0).x] 136 (0,0))/\Oy [q,w.heap.size] w3 wf) ?_ ?_
 ·refine⟨?_,?_,?_⟩
  ·have h1:=HR3.out.set3 (.int .i64 (el l 0).t)
   have ho:Oy [w.heap.size] (w3.setCell ⟨q,3,none⟩ (.int .i64 (el l 0).t)) ((((w3.setCell ⟨q,3,none⟩ (.int .i64 (el l 0).t)).setCell ⟨w.heap.size,0,none⟩ (.int .i64 (el l 0).t)).setCell ⟨w.heap.size,1,none⟩ (.int .i64 (el l 0).i)).setCell ⟨w.heap.size,2,none⟩ (.int .i64 (el l 0).x)):=
    (((aR [w.heap.size] _).setCell (by simp) _).setCell (by simp) _).setCell (by simp) _
   exact h1.kept ho (by simp;omega) (by simp;omega) (by simp;omega)
  ·have h0:(w3.setCell ⟨q,3,none⟩ (.int .i64 (el l 0).t)).heap[w.heap.size]? = some (.cells #[.int .i64 0,.int .i64 0,.int .i64 0] 136 (0,0)):=by
    rw[Below.heap_setCell _ _ _ _ n4];exact HRR.out
   exact aH (o:=2) _ (aH (o:=1) _ (aH (o:=0) _ h0))
  ·exact ((((aR [q,w.heap.size] w3).setCell (by simp) _).setCell (by simp) _).setCell (by simp) _).setCell (by simp) _
 rintro wf ⟨hf1,hf2,hf3⟩;clear e0 e1 e2 r0 r1 r2 f0 f1 f2 q3 fq;have r0:=aC hf2 0;have r1:=aC hf2 1;have r2:=aC hf2 2;refine bodyPost_ret (v:=.tuple #[evv (el l 0),.bool true]) (by simp[results,Tryz.results46,go_sem,r0,r1,r2]) rfl ⟨rfl,l',⟨.inr ⟨g,cap,b,HFF.out,hf1⟩,HH3.out,?_,?_,H.out.lim0⟩,?_,HL3.out,HM3.out⟩
 ·intro e he;exact H.out.ids e ((HM3.out e).1 he).1
 ·have:=HL3.out;have:=H.out.le;omega
 ·rw[HFF.out]
  have o3:Oy [q,g,b] w w3:=(ho1'.aB ho2).fB ho3;exact o3.trans hf3 (by intro k hk;simp at hk;rcases hk with rfl|rfl;exact .inl (by simp);exact .inr (Nat.le_refl _))
theorem X6 {w:World} {q:Nat} {F:List Nat} {a2 a3 a4:Value} (h:oD w q F a2 a3 a4 []) :
  Calls Tryz.prog 46 #[.pointer (some ⟨q,0,none⟩)] w fun e w'=>e=.returned (.tuple #[evv ⟨0,0,0⟩,.bool false])/\Oy [] w w':=by
 have H:=aA h;clear h;go_enter Tryz.func46,Tryz.ntmps46
 go_wp2_with fail
 refine (TQ (H.out.kept (S:=[]) ((aR [] w).alloc _) (by simp))).mono ?_;rintro e w1 ⟨rfl,ho1⟩;have hr:w1.heap[w.heap.size]? = some (.cells #[.int .i64 0,.int .i64 0,.int .i64 0] 136 (0,0)):=ho1.got (bG _ _) (by simp);have ho1':Oy [] w w1:=Oy.aB ((aR [] w).alloc _) ho1;have r0:=aC hr 0;have r1:=aC hr 1;have r2:=aC hr 2;have f0:=aM hr 0;have f1:=aM hr 1;have f2:=aM hr 2;have hws:=aF hr;have hne:w.heap.size≠w1.heap.size:=by omega
 have HR:=aA hr;clear hr ho1;go_wp2;refine kZ (G:=bodyPost _ _ _ _ _) (R:=fun wf=>wf.heap[w.heap.size]? = some (.cells #[.int .i64 0,.int .i64 0,.int .i64 0] 136 (0,0))/\Oy [] w wf) ?_ ?_
 ·refine⟨alloc_old (aH (o:=2) _ (aH (o:=1) _ (aH (o:=0) _ HR.out))),?_⟩
  have o1:Oy [w.heap.size] w1 ((((w1.setCell ⟨w.heap.size,0,none⟩ (.int .i64 0)).setCell ⟨w.heap.size,1,none⟩ (.int .i64 0)).setCell ⟨w.heap.size,2,none⟩ (.int .i64 0)).alloc (Obj.cells #[.int .i64 0,.int .i64 0,.int .i64 0] 136)):=
   ((((aR [w.heap.size] w1).setCell (by simp) _).setCell (by simp) _).setCell (by simp) _).alloc _
  exact ho1'.trans o1 (by simp)
 rintro wf ⟨hf2,hf3⟩;clear r0 r1 r2 f0 f1 f2;have r0:=aC hf2 0;have r1:=aC hf2 1;have r2:=aC hf2 2;exact bodyPost_ret (v:=.tuple #[evv ⟨0,0,0⟩,.bool false]) (by simp[results,Tryz.results46,go_sem,r0,r1,r2]) rfl ⟨rfl,hf3⟩
end
section
open Go.RowKit
def X3 (lim tm pu:Int) (n:Nat) (at_:Int):Int:=if at_<0 then 0 else if at_<tm then 0 else if lim<=n then 0 else pu+1
def fU (lim tm:Int) (n:Nat) (at_:Int):Int:=if at_<0 then 3 else if at_<tm then 12 else if lim<=n then 13 else 0
def PushTo (lim tm pu:Int) (l:List Ev) (at_ item pu':Int) (l':List Ev):Prop:=
 (fU lim tm l.length at_=0/\pu'=pu+1/\0<=at_/\tm<=at_/\l.length<lim/\l'.length=l.length+1/\∀ e,e∈l'↔e=⟨at_,pu+1,item⟩\/e∈l) \/
 (fU lim tm l.length at_≠0/\pu'=pu/\l'.length=l.length/\∀ e,e∈l'↔e∈l)
theorem XZ {w:World} {q:Nat} {F:List Nat} {lim tm pu:Int} {l:List Ev} (h:D5 w q F lim tm pu l) (at_ item:Int) (hp0:0<=pu) (hp1:pu<=1000000000) :
  Calls Tryz.prog 69 #[.pointer (some ⟨q,0,none⟩),.int .i64 at_,.int .i64 item] w fun e w' =>
   e=.returned (.tuple #[.int .i64 (X3 lim tm pu l.length at_),.int .i64 (fU lim tm l.length at_)]) /\
   ∃ F' l' pu',D5 w' q F' lim tm pu' l'/\Oy F w w'/\(∀ k∈F',k∈F\/w.heap.size<=k)/\PushTo lim tm pu l at_ item pu' l':=by
 unfold X3 fU PushTo;by_cases h1:at_<0
 ·refine (MW q at_ item w h1).mono ?_
  rintro e w' ⟨rfl,rfl⟩;refine⟨by rw[if_pos h1,if_pos h1],F,l,pu,h,aR _ _,fun _ h=>.inl h,.inr ⟨?_,rfl,rfl,fun _=>Iff.rfl⟩⟩;unfold fU;rw[if_pos h1];omega
 ·by_cases h2:at_<tm
  ·refine (MX h at_ item (by omega) h2).mono ?_
   rintro e w' ⟨rfl,rfl⟩;refine⟨by rw[if_neg h1,if_pos h2,if_neg h1,if_pos h2],F,l,pu,h,aR _ _,fun _ h=>.inl h,.inr ⟨?_,rfl,rfl,fun _=>Iff.rfl⟩⟩;unfold fU;rw[if_neg h1,if_pos h2];omega
  ·by_cases h3:lim<=l.length
   ·refine (TJ h at_ item (by omega) (by omega) h3).mono ?_
    rintro e w' ⟨rfl,ho⟩;refine⟨by rw[if_neg h1,if_neg h2,if_pos h3,if_neg h1,if_neg h2,if_pos h3],F,l,pu,h.kept ho (by simp),ho.weak (by simp),fun _ h=>.inl h,.inr ⟨?_,rfl,rfl,fun _=>Iff.rfl⟩⟩;unfold fU;rw[if_neg h1,if_neg h2,if_pos h3];omega
   ·refine (XW h at_ item (by omega) (by omega) (by omega) hp0 hp1).mono ?_
    rintro e w' ⟨rfl,F',l',hq,ho,hF,hl,hm⟩;refine⟨by rw[if_neg h1,if_neg h2,if_neg h3,if_neg h1,if_neg h2,if_neg h3],F',l',pu+1,hq,ho,hF,.inl ⟨?_,rfl,by omega,by omega,by omega,hl,hm⟩⟩;unfold fU;rw[if_neg h1,if_neg h2,if_neg h3]
theorem pop_gen {w:World} {q:Nat} {F:List Nat} {lim tm pu:Int} {l:List Ev} (h:D5 w q F lim tm pu l) :
  Calls Tryz.prog 46 #[.pointer (some ⟨q,0,none⟩)] w fun e w'=>e=.returned (.tuple #[evv (el l 0),.bool (decide (0<l.length))]) /\
   ∃ tm' l',D5 w' q F lim tm' pu l'/\Oy F w w'/\tm'=(if 0<l.length then (el l 0).t else tm)/\l'.length=l.length-1/\∀ e,e∈l'↔e∈l/\e.i≠(el l 0).i:=by
 by_cases hl:0<l.length
 ·refine (X5 h hl).mono ?_
  rintro e w' ⟨rfl,l',hq,ho,hl',hm⟩;exact⟨by simp[hl],_,l',hq,ho,by rw[if_pos hl],by omega,hm⟩
 ·have:l=[]:=List.eq_nil_of_length_eq_zero (by omega)
  subst this;refine (X6 h.rep).mono ?_;rintro e w' ⟨rfl,ho⟩;exact⟨rfl,tm,[],h.kept ho (by simp),ho.weak (by simp),rfl,rfl,by simp⟩
end
section
open Go
def i64 (n:Int):Prop:=-9223372036854775808<=n/\n<=9223372036854775807
end
section
open Go
end
def fe (f:Nat->Int):Nat->Nat->Int
 | 0,_=>0
 | k+1,i=>if f i=0 then fe f k (i+1) else f i
theorem tV {f:Nat->Int}:∀ {k i:Nat},fe f k i=0↔∀ j,i<=j->j<i+k->f j=0
 | 0,i=>by simp[fe];omega
 |k + 1,i=>by
  unfold fe;constructor
  ·intro h j h1 h2
   by_cases h0:f i=0
   ·rw[if_pos h0] at h
    by_cases hj:j=i
    ·subst hj;exact h0
    ·exact (tV (k:=k)).1 h j (by omega) (by omega)
   ·rw[if_neg h0] at h;exact absurd h h0
  ·intro h
   have h0:=h i (Nat.le_refl _) (by omega);rw[if_pos h0];exact (tV (k:=k)).2 fun j a b=>h j (by omega) (by omega)
theorem uQ {f:Nat->Int} {n k:Nat} (hk:k<n) (h:f k=0):fe f (n-k) k=fe f (n-(k+1)) (k+1):=by
 rw[show n-k=(n-(k+1))+1 by omega,fe,if_pos h]
theorem CX {f:Nat->Int} {n k:Nat} (hk:k<n) (h:f k≠0):fe f (n-k) k=f k:=by
 rw[show n-k=(n-(k+1))+1 by omega,fe,if_neg h]
theorem uR {f:Nat->Int} {n k:Nat} (hk:n<=k):fe f (n-k) k=0:=by
 rw[show n-k=0 by omega];rfl
structure Sg where
 a:Int
 p:Int
deriving DecidableEq
structure Ch where
 a:Int
 d:Int
 y:Int
deriving DecidableEq
structure Nd where
 ph:Int
 sg:List Sg
 tol:Int
 rf:Bool
 er:Int
 st:Int
 sv:List Int
deriving DecidableEq
structure Lk where
 A:Int
 B:Int
 d0:Int
 d1:Int
 v0:Int
 v1:Int
 lo:Int
 sd:Int
 ch:List Ch
deriving DecidableEq
structure Ft where
 n:Int
 f:Int
 t:Int
 k:Int
 v:Int
deriving DecidableEq
structure eU where
 nd:List Nd
 lk:List Lk
 ft:List Ft
 un:Int
 sd:Int
deriving DecidableEq
def pW:Sg:=⟨0,0⟩
def OG:Ch:=⟨0,0,0⟩
def nd0:Nd:=⟨0,[],0,false,0,0,[]⟩
def zS:Lk:=⟨0,0,0,0,0,0,0,0,[]⟩
def mD:Ft:=⟨0,0,0,0,0⟩
def dZ (n lo hi:Int):Bool:=decide (lo<=n/\n<=hi)
theorem bI {n lo hi:Int}:dZ n lo hi=true↔(lo<=n/\n<=hi):=by simp[dZ]
def JX (l:List Sg) (i:Nat):Int:=
 if dZ (l.getD i pW).a 0 1125899906842624=true/\dZ (l.getD i pW).p (-500000) 500000=true then
  (if i=0/\(l.getD i pW).a≠0 then 7 else if 0<i/\(l.getD i pW).a<=(l.getD (i-1) pW).a then 12 else 0) else 3
def fO (ph:Int) (l:List Sg):Int:=
 if l.length=0 then 14 else if 16<l.length then 6 else if dZ ph (-1125899906842624) 1125899906842624=true then fe (JX l) l.length 0 else 3
def CK (l:List Sg):Int:=l.foldl (fun b s=>max (max b s.p) (-s.p)) 0
def KL (ph:Int) (l:List Sg):Int:=if fO ph l=0 then CK l else 0
def JA (c:Ch):Bool:=dZ c.a 0 1125899906842624 && (dZ c.d 0 1 && dZ c.y 0 10000000000)
def chO (l:List Ch) (i:Nat):Int:=if (l.getD i OG).a<(l.getD (i-1) OG).a then 12 else 0
def lkR (l:Lk):Bool:=(dZ l.d0 0 10000000000 && dZ l.d1 0 10000000000) && ((dZ l.v0 0 10000000000 && dZ l.v1 0 10000000000) && dZ l.lo 0 1000)
def fP (l:Lk):Int:=
 if lkR l=true then (if l.ch.all JA=true then (if 16<l.ch.length then 6 else fe (chO l.ch) (l.ch.length-1) 1) else 3) else 3
def fits (k v:Int):Bool:=
 if k=2\/k=3 then dZ v (-1125899906842624) 1125899906842624 else if k=5 then dZ v 1 15 else if k=6 then dZ v 0 3 else if k=9 then dZ v 0 1125899906842624 else decide (v=0)
def IU (f:Ft):Int:=
 if dZ f.n 0 23=true/\dZ f.f 0 1125899906842624=true/\dZ f.t 0 1125899906842624=true then
  (if f.t<f.f then 12 else if dZ f.k 1 9=true then (if fits f.k f.v=true then 0 else 3) else 8) else 3
def tX (l:List Ft):Int:=if 32<l.length then 6 else fe (fun i=>IU (l.getD i mD)) l.length 0
def WH (l:List Int) (node nodes:Int) (i:Nat):Int:=
 if dZ (l.getD i 0) 0 (nodes-1)=true then (if l.getD i 0=node then 18 else if l.getD i 0∈l.take i then 10 else 0) else 3
def MI (n:Nd) (i nodes:Int):Int:=
  if fO n.ph n.sg=0 then
    (if dZ n.tol 0 500000=true then
      (if n.tol<KL n.ph n.sg then 15
       else if dZ n.er 0 1125899906842624=true/\(n.er=0\/n.rf=true) then
        (if n.rf=true/\0<n.sv.length then 7
         else if 12<n.sv.length then 6
         else if fe (WH n.sv i nodes) n.sv.length 0=0 then (if dZ n.st 0 1125899906842624=true then 0 else 3) else fe (WH n.sv i nodes) n.sv.length 0)
       else 3)
     else 3)
  else fO n.ph n.sg
def twin (l:List Lk) (x:Lk):Bool:=l.any fun y=>decide (y.A=x.A) && decide (y.B=x.B)
def NS (l:List Lk) (nodes:Int) (i:Nat):Int:=
 if dZ (l.getD i zS).A 0 (nodes-1)=true/\dZ (l.getD i zS).B 0 (nodes-1)=true then
  (if (l.getD i zS).B<=(l.getD i zS).A then 12 else if twin (l.take i) (l.getD i zS)=true then 10 else fP (l.getD i zS)) else 3
def NR (a b:Int):List Lk->Nat->Option (Nat × Bool)
 | [],_=>none
 | l::r,i=>if l.A=a/\l.B=b then some (i,false) else if l.A=b/\l.B=a then some (i,true) else NR a b r (i+1)
def UN (l:List Lk) (a b:Int):Option (Nat × Bool):=NR a b l 0
def Z6 (l:List Lk) (i:Int) (n:Nd):Int:=if n.sv.all (fun s=>(UN l i s).isSome)=true then 0 else 11
def sV (s:eU):Int:=
  if s.nd.length=0 then 14 else if 24<s.nd.length\/64<s.lk.length then 6
  else if fe (fun i=>MI (s.nd.getD i nd0) i s.nd.length) s.nd.length 0=0 then
    (if fe (NS s.lk s.nd.length) s.lk.length 0=0 then
      (if fe (fun i=>Z6 s.lk i (s.nd.getD i nd0)) s.nd.length 0=0 then
        (if tX s.ft=0 then
          (if s.ft.all (fun f=>decide (f.n<s.nd.length))=true then (if dZ s.un 1 1125899906842624=true then 0 else 3) else 3)
         else tX s.ft)
       else 11)
     else fe (NS s.lk s.nd.length) s.lk.length 0)
  else fe (fun i=>MI (s.nd.getD i nd0) i s.nd.length) s.nd.length 0
def it (n:Int):List UInt8:=Lib.itoa n
structure SSt where
 sc:eU
 at_:Nat
theorem i64_in {n lo hi:Int} (h:dZ n lo hi=true) (h0: -9223372036854775808<=lo) (h1:hi<=9223372036854775807):i64 n:=by
 have:=bI.1 h;exact⟨by omega,by omega⟩
structure NdI (n:Nd):Prop where
 tol:i64 n.tol
 st:i64 n.st
 er:i64 n.er
 ph:i64 n.ph
 sg:∀ s∈n.sg,i64 s.a/\i64 s.p
 sv:∀ s∈n.sv,i64 s
 rf:n.rf=false->n.er=0
structure LkI (l:Lk):Prop where
 A:i64 l.A
 B:i64 l.B
 d0:i64 l.d0
 d1:i64 l.d1
 v0:i64 l.v0
 v1:i64 l.v1
 lo:i64 l.lo
 sd:0<=l.sd/\l.sd<=18446744073709551615
 ch:∀ c∈l.ch,i64 c.a/\i64 c.d/\i64 c.y
structure FtI (q:Ft):Prop where
 n:i64 q.n
 f:i64 q.f
 t:i64 q.t
 v:i64 q.v
 k:1<=q.k/\q.k<=9
structure ScI (s:eU):Prop where
 nd:∀ n∈s.nd,NdI n
 lk:∀ l∈s.lk,LkI l
 ft:∀ f∈s.ft,FtI f
 un:i64 s.un
 sd:0<=s.sd/\s.sd<=18446744073709551615
 le:s.nd.length<=1000
theorem qA {c:Prop} [Decidable c] {a b:Int} (h:(if c then a else b)=0) (ha:a≠0):¬ c/\b=0:=by
 by_cases hc:c
 ·rw[if_pos hc] at h;exact absurd h ha
 ·rw[if_neg hc] at h;exact⟨hc,h⟩
theorem rE {c:Prop} [Decidable c] {a b:Int} (h:(if c then a else b)=0) (hb:b≠0):c/\a=0:=by
 by_cases hc:c
 ·rw[if_pos hc] at h;exact⟨hc,h⟩
 ·rw[if_neg hc] at h;exact absurd h hb
theorem mR {a b:Int} (h:(if a=0 then b else a)=0):a=0/\b=0:=by
 by_cases hc:a=0
 ·rw[if_pos hc] at h;exact⟨hc,h⟩
 ·rw[if_neg hc] at h;exact absurd h hc
theorem oscE_ok {ph:Int} {l:List Sg} (h:fO ph l=0):dZ ph (-1125899906842624) 1125899906842624=true/\0<l.length/\l.length<=16/\∀ i,i<l.length->JX l i=0:=by
 obtain⟨h1,h⟩:=qA h (by decide);obtain⟨h2,h⟩:=qA h (by decide);obtain⟨h3,h⟩:=rE h (by decide);exact⟨h3,by omega,by omega,fun i hi=>tV.1 h i (Nat.zero_le _) (by omega)⟩
theorem ZU {α:Type} {l:List α} {x z:α} (h:x∈l):∃ i,i<l.length/\l.getD i z=x:=by
 obtain⟨i,hi,rfl⟩:=List.getElem_of_mem h;exact⟨i,hi,by simp[List.getD_eq_getElem?_getD,hi]⟩
structure NdOk (n:Nd) (i nodes:Int):Prop where
 osc:fO n.ph n.sg=0
 tol:dZ n.tol 0 500000=true
 bnd:KL n.ph n.sg<=n.tol
 er:dZ n.er 0 1125899906842624=true
 er0:n.er=0\/n.rf=true
 form:n.rf=true->n.sv=[]
 len:n.sv.length<=12
 sv:∀ k,k<n.sv.length->WH n.sv i nodes k=0
 st:dZ n.st 0 1125899906842624=true
theorem ndE_ok {n:Nd} {i nodes:Int} (h:MI n i nodes=0):NdOk n i nodes:=by
 obtain⟨h1,h⟩:=mR h;obtain⟨h2,h⟩:=rE h (by decide);obtain⟨h3,h⟩:=qA h (by decide);obtain⟨h4,h⟩:=rE h (by decide);obtain⟨h5,h⟩:=qA h (by decide);obtain⟨h6,h⟩:=qA h (by decide);obtain⟨h7,h⟩:=mR h;obtain⟨h8,_⟩:=rE h (by decide);exact⟨h1,h2,by omega,h4.1,h4.2,fun hr=>Decidable.byContradiction fun hn=>h5 ⟨hr,List.length_pos_iff.2 hn⟩,by omega,fun k hk=>tV.1 h7 k (Nat.zero_le _) (by omega),h8⟩
structure LkOk (l:List Lk) (nodes:Int) (i:Nat):Prop where
 A:dZ (l.getD i zS).A 0 (nodes-1)=true
 B:dZ (l.getD i zS).B 0 (nodes-1)=true
 lt:(l.getD i zS).A<(l.getD i zS).B
 tw:twin (l.take i) (l.getD i zS)=false
 lk:fP (l.getD i zS)=0
theorem leE_ok {l:List Lk} {nodes:Int} {i:Nat} (h:NS l nodes i=0):LkOk l nodes i:=by
 obtain⟨h1,h⟩:=rE h (by decide);obtain⟨h2,h⟩:=qA h (by decide);obtain⟨h3,h⟩:=qA h (by decide);exact⟨h1.1,h1.2,by omega,by simpa using h3,h⟩
structure ScOk (s:eU):Prop where
 n0:0<s.nd.length
 n1:s.nd.length<=24
 l1:s.lk.length<=64
 nd:∀ i,i<s.nd.length->NdOk (s.nd.getD i nd0) i s.nd.length
 lk:∀ i,i<s.lk.length->LkOk s.lk s.nd.length i
 jn:∀ i,i<s.nd.length->(s.nd.getD i nd0).sv.all (fun v=>(UN s.lk i v).isSome)=true
 fc:tX s.ft=0
 ft:∀ f∈s.ft,IU f=0
 fl:s.ft.length<=32
 un:dZ s.un 1 1125899906842624=true
theorem chkS_ok {s:eU} (h:sV s=0):ScOk s:=by
 obtain⟨h1,h⟩:=qA h (by decide);obtain⟨h2,h⟩:=qA h (by decide);obtain⟨h3,h⟩:=mR h;obtain⟨h4,h⟩:=mR h;obtain⟨h5,h⟩:=rE h (by decide);obtain⟨h6,h⟩:=mR h;obtain⟨_,h⟩:=rE h (by decide);obtain⟨h8,_⟩:=rE h (by decide);obtain⟨h9,h10⟩:=qA (c:=32<s.ft.length) h6 (by decide);refine⟨by omega,by omega,by omega,fun i hi=>ndE_ok (tV.1 h3 i (Nat.zero_le _) (by omega)),fun i hi=>leE_ok (tV.1 h4 i (Nat.zero_le _) (by omega)),fun i hi=>?_,h6,fun f hf=>?_,by omega,h8⟩
 ·exact (rE (tV.1 h5 i (Nat.zero_le _) (by omega)) (by decide)).1
 ·obtain⟨i,hi,rfl⟩:=ZU (z:=mD) hf
  exact tV.1 h10 i (Nat.zero_le _) (by omega)
def SdOk (s:eU):Prop:=(0<=s.sd/\s.sd<=18446744073709551615)/\∀ l∈s.lk,0<=l.sd/\l.sd<=18446744073709551615
structure SIn (x:SSt):Prop where
 le:x.at_<=7
 lf:x.at_<=5->x.sc.lk=[]/\x.sc.ft=[]
 f6:x.at_=6->x.sc.ft=[]
 n2:x.at_<=2->x.sc.nd=[]
 n3:x.at_=3->∃ l n,x.sc.nd=l ++ [n]/\n.ph=0/\n.sg=[]/\n.sv=[]
 n4:x.at_=4->∃ l n,x.sc.nd=l ++ [n]/\n.sv=[]
 sd:SdOk x.sc
theorem ZX {a b:Int}:∀ (l:List Lk) (i j:Nat) (d:Bool),NR a b l i=some (j,d)->i<=j/\j<i+l.length
 | [],_,_,_,h=>by cases h
 |x :: r,i,j,d,h=>by
  unfold NR at h;split at h
  ·cases h;simp
  ·split at h
   ·cases h;simp
   ·have:=ZX r (i+1) j d h
    simp only[List.length_cons];omega
section
open Go.RowKit
theorem qU (w:World) (n:Nat):Oy [] w (w.drewN n):=⟨rfl,rfl,rfl,Nat.le_refl _,fun _ _ _=>rfl⟩
def TB (s:Sg):List Value:=[.int .i64 s.a,.int .i64 s.p]
theorem aU.ptr {α:Type} {ec:α->List Value} {s:Nat} {w:World} {p:Option Addr} {n cap k:Nat} {l:List α} (hv:aU ec s w p n cap l) (hk:k<l.length):∃ b off,p=some ⟨b,off,none⟩:=by
 obtain⟨b,off,hp,_⟩:=hv.cell k l[k] (List.getElem?_eq_getElem hk);exact⟨b,off,hp⟩
theorem aU.at_ {α:Type} {ec:α->List Value} {s:Nat} {w wr:World} {cap n k:Nat} {p:Option Addr} {l:List α} {x:α} (hv:aU ec s w p n cap l) (ho:Oy [] w wr) (hx:l[k]? = some x) :
  ∃ bk off,p=some ⟨bk,off,none⟩/\bk<wr.heap.size/\∀ j v,(ec x)[j]? = some v->wr.cell? ⟨bk,off+(k*s+j),none⟩=some v:=by
 obtain⟨b,off,hp,hb,hc⟩:=hv.cell k x hx;exact⟨b,off,hp,Nat.lt_of_lt_of_le hb ho.size,fun j v hj=>by rw[ho.cell hb (by simp)];exact hc j v hj⟩
theorem getD_some {α:Type} {l:List α} {k:Nat} (z:α) (h:k<l.length):l[k]? = some (l.getD k z):=by simp[List.getD_eq_getElem?_getD,h]
theorem aU.sg {w wr:World} {cap k:Nat} {p:Option Addr} {l:List Sg} (hv:aU TB 2 w p l.length cap l) (ho:Oy [] w wr) (hk:k<l.length) :
  ∃ bk off,p=some ⟨bk,off,none⟩/\wr.cell? ⟨bk,off+k*2,none⟩=some (.int .i64 (l.getD k pW).a)/\wr.cell? ⟨bk,off+k*2+1,none⟩=some (.int .i64 (l.getD k pW).p)/\bk<wr.heap.size:=by
 obtain⟨bk,off,hp,hb,hc⟩:=hv.at_ ho (getD_some pW hk);exact⟨bk,off,hp,hc 0 _ rfl,hc 1 _ rfl,hb⟩
def OscR (w:World) (l:List Sg) (vi:Value) (wr:World):Prop:=
 ∃ k:Nat,k<=l.length/\vi=.int .i64 k/\fe (JX l) l.length 0=fe (JX l) (l.length-k) k/\Oy [] w wr
theorem kD {n lo hi:Int} (h:¬ dZ n lo hi=true):n<lo\/(lo<=n/\hi<n):=by
 have:=fun a b=>h (bI.2 ⟨a,b⟩);rcases Int.lt_or_le n lo with h1|h1
 ·exact .inl h1
 ·exact .inr ⟨h1,by rcases Int.lt_or_le hi n with h2|h2;exact h2;exact absurd h2 (this h1)⟩
theorem pOsc {w:World} {p:Option Addr} {n cap:Nat} {l:List Sg} (ph:Int) (hv:aU TB 2 w p n cap l) (hn:n<=100000) :
  Calls Tryz.prog 76 #[.agg #[.int .i64 ph,.slice p n cap]] w fun e w'=>e=.returned (.int .i64 (fO ph l))/\Oy [] w w':=by
 have hl:=hv.len;subst hl;have HV:=aA hv;clear hv;go_enter Tryz.func76,Tryz.ntmps76
 go_upto_region 1 with (fail)
 refine aG (G:=fun w0=>Code.wp _ _ _ _ w0) ?_;intro w1 hb1 ho1 hs1;have B1:=aA hb1;have O1:=aA ho1;clear hb1 ho1 hs1;have g0:=aC B1.out 0;have g1:=aC B1.out 1;have l0:=aF B1.out;by_cases h0:l.length=0
 ·have d1:((l.length:Int) == 0)=true:=by rw[h0];rfl
  have HR:Hid (fO ph l=14):=aA (by unfold fO;rw[if_pos h0]);go_wp2;go_ret
  exact⟨by rw[HR.out];rfl,O1.out⟩
 ·have d1 : ((l.length:Int) == 0)=false:=by rw[beq_eq_false_iff_ne];omega
  by_cases h16:16<l.length
  ·have d2:decide ((l.length:Int) > 16)=true:=by simp;omega
   have d3:decide (16<(l.length:Int))=true:=by simp;omega
   have HR:Hid (fO ph l=6):=aA (by unfold fO;rw[if_neg h0,if_pos h16]);go_wp2;go_ret
   exact⟨by rw[HR.out];rfl,O1.out⟩
  ·have d2:decide ((l.length:Int) > 16)=false:=by simp;omega
   have d3:decide (16<(l.length:Int))=false:=by simp;omega
   by_cases hph:dZ ph (-1125899906842624) 1125899906842624=true
   ·obtain⟨p0,p1⟩:=bI.1 hph
    have e1:decide (ph < -1125899906842624)=false:=by simp;omega
    have e2:decide (ph > 1125899906842624)=false:=by simp;omega
    have e3:decide (1125899906842624<ph)=false:=by simp;omega
    have HR:Hid (fO ph l=fe (JX l) l.length 0):=aA (by unfold fO;rw[if_neg h0,if_neg h16,if_pos hph]);clear hph;go_wp2;go_loopw [27] (fun vi wr=>OscR w1 l vi wr) (fun vi _=>l.length-(intOf vi).toNat)
    case atStart=>exact⟨0,Nat.zero_le _,rfl,rfl,aR _ _⟩
    case round =>
     clear d1 d2 d3 e1 e2 e3 p0 p1 g0 g1 l0;obtain⟨k,hk,rfl,hfe,ho⟩:=hrel;have HF:=aA hfe;have OO:=aA ho;have OA:=aA (O1.out.aB ho);have B2:=aA (ho.got B1.out (by simp));clear hfe ho;by_cases hlt:k<l.length
     ·obtain⟨bk,off,hp,c0,c1,lb⟩:=HV.out.sg OA.out hlt
      subst hp;have hsE:JX l k=if dZ (l.getD k pW).a 0 1125899906842624=true/\dZ (l.getD k pW).p (-500000) 500000=true then (if k=0/\(l.getD k pW).a≠0 then 7 else if 0<k/\(l.getD k pW).a<=(l.getD (k-1) pW).a then 12 else 0) else 3:=rfl
      generalize l.getD k pW=s at c0 c1 hsE;have HSE:=aA hsE;clear hsE;have HNO:Hid (JX l k≠0->fO ph l=JX l k):=aA (fun h=>by rw[HR.out,HF.out,CX hlt h]);have HYE:Hid (JX l k=0->fe (JX l) l.length 0=fe (JX l) (l.length-(k+1)) (k+1)):=aA (fun h=>by rw[HF.out,uQ hlt h]);go_upto_region 10 with (fail)
      refine aG (G:=fun w0=>Code.wp _ _ _ _ w0) ?_;intro w2 hb2 ho2 hs2;have E2:=aA hb2;have O2:=aA (OO.out.aB ho2);have OB:=aA (OA.out.aB ho2);have B3:=aA (ho2.got B2.out (by simp));clear hb2 ho2 hs2 c0 c1 lb;have c0:=aC E2.out 0;have c1:=aC E2.out 1;have le:=aF E2.out;have g1:=aC B3.out 1;have l0:=aF B3.out;by_cases ha:dZ s.a 0 1125899906842624=true
      ·obtain⟨a0,a1⟩:=bI.1 ha
       have e1:decide (s.a<0)=false:=by simp;omega
       have e2:decide (s.a > 1125899906842624)=false:=by simp;omega
       have e3:decide (1125899906842624<s.a)=false:=by simp;omega
       by_cases hp:dZ s.p (-500000) 500000=true
       ·obtain⟨b0,b1⟩:=bI.1 hp
        have e4:decide (s.p < -500000)=false:=by simp;omega
        have e5:decide (s.p > 500000)=false:=by simp;omega
        have e6:decide (500000<s.p)=false:=by simp;omega
        have hs2:=HSE.out;rw[if_pos ⟨ha,hp⟩] at hs2;by_cases hk0:k=0
        ·have k1:((k:Int) == 0)=true:=by rw[hk0];rfl
         have k2:decide (0<(k:Int))=false:=by simp;omega
         have k3:decide ((k:Int) > 0)=false:=by simp;omega
         have k4:decide (0<k)=false:=by simp;omega
         by_cases hz:s.a=0
         ·have z1:(s.a != 0)=false:=by simp[hz]
          have HX:=aA (HYE.out (by rw[hs2,if_neg (fun q=>q.2 hz),if_neg (fun q=>by omega)]));clear hs2 hz ha hp hk0;go_wp2_with fail
          go_quiet (fail)
          go_wp2;go_roundw
          case rel=>exact⟨k+1,by omega,by go_num,HX.out,O2.out.aB (qU _ _)⟩
          case measure=>first|(simp[intOf];done)|(simp[intOf];omega)
         ·have z1:(s.a != 0)=true:=by simp[hz]
          have h7:JX l k=7:=by rw[hs2,if_pos ⟨hk0,hz⟩]
          have HX:Hid (fO ph l=7):=aA ((HNO.out (by rw[h7];decide)).trans h7);clear hs2 hz ha hp hk0 h7;go_wp2;go_ret
          exact⟨by rw[HX.out];rfl,OB.out⟩
        ·have k1:((k:Int) == 0)=false:=by rw[beq_eq_false_iff_ne];omega
         have k2:decide (0<(k:Int))=true:=by simp;omega
         have k3:decide ((k:Int) > 0)=true:=by simp;omega
         have k4:decide (0<k)=true:=by simp;omega
         obtain⟨bk',off',hp',p0,p1,lb⟩:=HV.out.sg OB.out (show k-1<l.length by omega)
         cases hp'
         generalize (l.getD (k-1) pW)=t at p0 p1 hs2;clear p1;have hi1:(1:Int)<=(k:Int):=by omega
         have hi2:(k:Int)-1<(l.length:Int):=by omega
         have hi3:wrap .i64 ((k:Int)-1)=(k:Int)-1:=IntWalk.i64_in _ (by omega);have hi4:((k:Int)-1).toNat=k-1:=by omega
         by_cases hle:s.a<=t.a
         ·have z1:decide (s.a<=t.a)=true:=by simp[hle]
          have h12:JX l k=12:=by rw[hs2,if_neg (fun q=>hk0 q.1),if_pos ⟨by omega,hle⟩]
          have HX:Hid (fO ph l=12):=aA ((HNO.out (by rw[h12];decide)).trans h12);clear hs2 hle ha hp hk0 h12;go_wp2_with fail
          go_quiet (fail)
          go_wp2;go_ret
          exact⟨by rw[HX.out];rfl,OB.out.aB (qU _ _)⟩
         ·have z1:decide (s.a<=t.a)=false:=by simpa using hle
          have HX:=aA (HYE.out (by rw[hs2,if_neg (fun q=>hk0 q.1),if_neg (fun q=>hle q.2)]));clear hs2 hle ha hp hk0;go_wp2_with fail
          go_quiet (fail)
          clear hi3 hi4;go_wp2;go_roundw
          case rel=>exact⟨k+1,by omega,by go_num,HX.out,O2.out.aB (qU _ _)⟩
          case measure=>first|(simp[intOf];done)|(simp[intOf];omega)
       ·have h3:JX l k=3:=by rw[HSE.out,if_neg (fun q=>hp q.2)]
        have HX:Hid (fO ph l=3):=aA ((HNO.out (by rw[h3];decide)).trans h3);rcases kD hp with hq|⟨hq,hr⟩
        ·have e4:decide (s.p < -500000)=true:=by simp;omega
         clear h3 ha hp;go_wp2;go_ret
         exact⟨by rw[HX.out];rfl,OB.out⟩
        ·have e4:decide (s.p < -500000)=false:=by simp;omega
         have e5:decide (s.p > 500000)=true:=by simp;omega
         have e6:decide (500000<s.p)=true:=by simp;omega
         clear h3 ha hp;go_wp2;go_ret
         exact⟨by rw[HX.out];rfl,OB.out⟩
      ·have h3:JX l k=3:=by rw[HSE.out,if_neg (fun q=>ha q.1)]
       have HX:Hid (fO ph l=3):=aA ((HNO.out (by rw[h3];decide)).trans h3);rcases kD ha with hq|⟨hq,hr⟩
       ·have e1:decide (s.a<0)=true:=by simp;omega
        clear h3 ha;go_wp2;go_ret
        exact⟨by rw[HX.out];rfl,OB.out⟩
       ·have e1:decide (s.a<0)=false:=by simp;omega
        have e2:decide (s.a > 1125899906842624)=true:=by simp;omega
        have e3:decide (1125899906842624<s.a)=true:=by simp;omega
        clear h3 ha;go_wp2;go_ret
        exact⟨by rw[HX.out];rfl,OB.out⟩
     ·have HX:Hid (fO ph l=0):=aA (by rw[HR.out,HF.out,uR (by omega)])
      obtain rfl:k=l.length:=by omega
      go_wp2;go_ret
      exact⟨by rw[HX.out];rfl,OA.out⟩
   ·have HR:Hid (fO ph l=3):=aA (by unfold fO;rw[if_neg h0,if_neg h16,if_neg hph])
    rcases kD hph with hq|⟨hq,hr⟩
    ·have e1:decide (ph < -1125899906842624)=true:=by simp;omega
     clear hph;go_wp2;go_ret
     exact⟨by rw[HR.out];rfl,O1.out⟩
    ·have e1:decide (ph < -1125899906842624)=false:=by simp;omega
     have e2:decide (ph > 1125899906842624)=true:=by simp;omega
     have e3:decide (1125899906842624<ph)=true:=by simp;omega
     clear hph;go_wp2;go_ret
     exact⟨by rw[HR.out];rfl,O1.out⟩
end
section
open Go.RowKit
def BndR (w:World) (l:List Sg) (v vi:Value) (wr:World):Prop:=
 ∃ k:Nat,k<=l.length/\vi=.int .i64 k/\v=.int .i64 (CK (l.take k))/\Oy [] w wr
theorem UF (l:List Sg) (s:Sg):CK (l ++ [s])=max (max (CK l) s.p) (-s.p):=by simp[CK]
theorem oscM_bd:∀ {l:List Sg},(∀ s∈l,-500000<=s.p/\s.p<=500000)->0<=CK l/\CK l<=500000:=by
 intro l
 have key:∀ (l:List Sg) (b:Int),(∀ s∈l,-500000<=s.p/\s.p<=500000)->0<=b->b<=500000->0<=l.foldl (fun b s=>max (max b s.p) (-s.p)) b/\l.foldl (fun b s=>max (max b s.p) (-s.p)) b<=500000:=by
  intro l;induction l with
  | nil=>intro b _ h0 h1;exact⟨h0,h1⟩
  | cons s r ih =>
   intro b h h0 h1;have hs:=h s (by simp);rw[List.foldl_cons];exact ih _ (fun x hx=>h x (by simp[hx])) (by omega) (by omega)
 exact fun h=>key l 0 h (by decide) (by decide)
theorem pBound {w:World} {p:Option Addr} {n cap:Nat} {l:List Sg} (ph:Int) (hv:aU TB 2 w p n cap l) (hn:n<=100000) :
  Calls Tryz.prog 77 #[.agg #[.int .i64 ph,.slice p n cap]] w fun e w'=>e=.returned (.int .i64 (KL ph l))/\Oy [] w w':=by
 have hl:=hv.len;subst hl;have HV:=aA hv;clear hv;go_enter Tryz.func77,Tryz.ntmps77
 go_wp2_with fail
 refine aG (G:=fun w0=>Calls _ _ _ w0 _) ?_;intro w1 hb1 ho1 hs1;have B1:=aA hb1;have O1:=aA ho1;clear hb1 ho1 hs1;refine (pOsc ph (HV.out.kept O1.out) hn).mono ?_;rintro e w2 ⟨rfl,ho2⟩;have B2:=aA (ho2.got B1.out (by simp));have O2:=aA (O1.out.aB ho2);clear ho2 B1 O1;have g0:=aC B2.out 0;have g1:=aC B2.out 1;have l0:=aF B2.out;by_cases hc:fO ph l=0
 ·have HR:Hid (KL ph l=CK l):=aA (by unfold KL;rw[if_pos hc])
  have hall:∀ s∈l,-500000<=s.p/\s.p<=500000:=fun s hs=>by
   obtain⟨i,hi,rfl⟩:=List.getElem_of_mem hs;have:=(oscE_ok hc).2.2.2 i hi;unfold JX at this;by_cases hq:dZ (l.getD i pW).a 0 1125899906842624=true/\dZ (l.getD i pW).p (-500000) 500000=true
   ·have h2:=bI.1 hq.2
    rwa [show l.getD i pW=l[i] by simp[List.getD_eq_getElem?_getD,hi]] at h2
   ·rw[if_neg hq] at this;cases this
  have HAL:=aA hall;rw[hc];clear hc hall;go_wp2;go_loopw [3,12] (fun v vi wr=>BndR w2 l v vi wr) (fun _ vi _=>l.length-(intOf vi).toNat)
  case atStart=>exact⟨0,Nat.zero_le _,rfl,rfl,aR _ _⟩
  case round =>
   clear g0 g1 l0;obtain⟨k,hk,rfl,rfl,ho⟩:=hrel;have OO:=aA ho;have OA:=aA (O2.out.aB ho);clear ho;by_cases hlt:k<l.length
   ·obtain⟨bk,off,hp,c0,c1,lb⟩:=HV.out.sg OA.out hlt
    subst hp;have hgk:=getD_some pW hlt;have hsb:=HAL.out _ (List.mem_of_getElem? hgk);have htk:CK (l.take (k+1))=max (max (CK (l.take k)) (l.getD k pW).p) (-(l.getD k pW).p):=by rw[List.take_add_one,hgk];exact UF _ _
    have hmb:=oscM_bd (l:=l.take k) (fun s hs=>HAL.out s (List.mem_of_mem_take hs));generalize l.getD k pW=s at c0 c1 hsb htk;generalize CK (l.take k)=z at hmb htk |-;have HTK:=aA htk;clear hgk htk;obtain⟨s0,s1⟩:=hsb;obtain⟨m0,m1⟩:=hmb;go_wp2;go_roundw
    case rel=>exact⟨k+1,by omega,by go_num,by rw[HTK.out];first|rfl|(congr 1;omega),OO.out.alloc _⟩
    case measure=>first|(simp[intOf];done)|(simp[intOf];omega)
   ·rw[List.take_of_length_le (by omega)]
    obtain rfl:k=l.length:=by omega
    go_wp2;go_ret
    exact⟨by rw[HR.out];rfl,OA.out⟩
 ·have HR:Hid (KL ph l=0):=aA (by unfold KL;rw[if_neg hc])
  have b1:(fO ph l == 0)=false:=by simp[hc]
  have b2:(fO ph l != 0)=true:=by simp[hc]
  clear hc;go_wp2;go_ret
  exact⟨by rw[HR.out];rfl,O2.out⟩
end
section
open Go.RowKit
def nC (n:Int):Int:=min (max n 0) 10000000000
theorem clp_eq {n:Int}:nC n=n↔dZ n 0 10000000000=true:=by rw[bI];unfold nC;omega
def LimI (w1:World) (b:Nat) (x y:Int) (vi:Value) (wr:World):Prop:=
 ∃ k:Nat,k<=2/\vi=.int .i64 k/\wr.heap[b]? = some (.cells #[.int .i64 (if 0<k then nC x else x),.int .i64 (if 1<k then nC y else y)] 76 (0,0))/\Oy [b] w1 wr
theorem lK (x y:Int) (w:World):Calls Tryz.prog 91 #[.agg #[.int .i64 x,.int .i64 y]] w fun e w'=>e=.returned (.agg #[.int .i64 (nC x),.int .i64 (nC y)])/\Oy [] w w':=by
 go_enter Tryz.func91,Tryz.ntmps91
 go_upto_region 1 with (fail)
 refine aG (G:=fun w0=>Code.wp _ _ _ _ (w0.alloc _)) ?_;intro w0 hb0 ho0 hs0;have hlt:w.heap.size<w0.heap.size:=aF hb0;rw[<-hs0];clear hs0;refine aG (G:=fun w0=>Code.wp _ _ _ _ w0) ?_;intro w1 hb1 ho1 hs1;have B1:=aA (ho1.got hb0 (by simp));have C1:=aA hb1;have O1:=aA (ho0.aB ho1);clear hb0 ho0 hb1 ho1 hs1;go_wp2;go_loopw [4] (fun vi wr=>LimI w1 w.heap.size x y vi wr) (fun vi _=>2-(intOf vi).toNat)
 case atStart=>exact⟨0,by omega,rfl,B1.out,aR _ _⟩
 case round =>
  obtain⟨k,hk,rfl,hb,ho⟩:=hrel;have BB:=aA hb;have OO:=aA ho;clear hb ho;have hcases:k=0\/k=1\/k=2:=by omega
  rcases hcases with rfl|rfl|rfl
  ·have g0:=aC BB.out 0;have f0:=aM BB.out 0;have l0:=aF BB.out
   simp only[Nat.lt_irrefl,if_false] at g0;go_wp2;have E0:∀ z:Int,(if 10000000000<if z<0 then (0:Int) else z then 10000000000 else if z<0 then 0 else z)=nC z:=by intro z;unfold nC;split<;>split<;>omega
   rw[E0];exact⟨⟨1,by omega,rfl,by simpa using aH (o:=0) _ BB.out,OO.out.setCell (Or.inl (by simp)) _⟩,by simp[intOf]⟩
  ·have g1:=aC BB.out 1;have f1:=aM BB.out 1;have l1:=aF BB.out
   simp only[Nat.lt_irrefl,if_false,if_true,Nat.zero_lt_one] at g1;go_wp2;have E0:∀ z:Int,(if 10000000000<if z<0 then (0:Int) else z then 10000000000 else if z<0 then 0 else z)=nC z:=by intro z;unfold nC;split<;>split<;>omega
   rw[E0];exact⟨⟨2,by omega,rfl,by simpa using aH (o:=1) _ BB.out,OO.out.setCell (Or.inl (by simp)) _⟩,by simp[intOf]⟩
  ·have g0:=aC BB.out 0;have g1:=aC BB.out 1;have l1:=aF BB.out
   simp only[if_true,Nat.zero_lt_two,Nat.one_lt_two] at g0 g1;have hc1:=OO.out.got C1.out (by simp;omega);have HC:=aA hc1;have r0:=aC hc1 0;have r1:=aC hc1 1;have q0:=aM hc1 0;have q1:=aM hc1 1;have s1:=aC (aH (o:=0) (.int .i64 (nC x)) hc1) 1;have s0:=aM (aH (o:=0) (.int .i64 (nC x)) hc1) 1;have l2:=aF hc1;clear hc1;go_wp2;have HD:=aH (o:=1) (.int .i64 (nC y)) (aH (o:=0) (.int .i64 (nC x)) HC.out);have e0:=aC HD 0;have e1:=aC HD 1
   have hO:Oy [] w ((wr.setCell ⟨w0.heap.size,0,none⟩ (.int .i64 (nC x))).setCell ⟨w0.heap.size,1,none⟩ (.int .i64 (nC y))):=
    ((O1.out.trans OO.out (fun x hx=>by simp at hx;subst hx;exact .inr (Nat.le_refl _))).setCell (Or.inr (by simp;omega)) _).setCell (Or.inr (by simp;omega)) _
   exact bodyPost_ret (v:=.agg #[.int .i64 (nC x),.int .i64 (nC y)]) (by simp[results,Tryz.results91,go_sem,e0,e1]) rfl ⟨rfl,hO⟩
theorem XC (n:Int) (w:World):Calls Tryz.prog 92 #[.int .i64 n] w fun e w'=>e=.returned (.bool (dZ n 0 1125899906842624))/\w=w':=by
 by_cases h0:0<=n
 focus
  have d1:decide (n >= 0)=true:=by simpa using h0
  have d2:decide (0<=n)=true:=by simpa using h0
  have HR:Hid (dZ n 0 1125899906842624=decide (n<=1125899906842624)):=aA (by simp[dZ,h0])
 rotate_left
 focus
  have d1:decide (n >= 0)=false:=by simpa using h0
  have d2:decide (0<=n)=false:=by simpa using h0
  have HR:Hid (dZ n 0 1125899906842624=false):=aA (by simp[dZ,h0])
 rotate_left
 all_goals
  clear h0;go_enter Tryz.func92,Tryz.ntmps92
  go_wp2;go_ret
  exact⟨by rw[HR.out];rfl,rfl⟩
theorem pDir (n:Int) (w:World):Calls Tryz.prog 93 #[.int .i64 n] w fun e w'=>e=.returned (.bool (dZ n 0 1))/\w=w':=by
 by_cases h0:n=0
 ·subst h0
  go_enter Tryz.func93,Tryz.ntmps93
  go_wp2;go_ret
  exact⟨rfl,rfl⟩
 ·have d1:(n == 0)=false:=by simp[h0]
  have HR:Hid (dZ n 0 1=(n == 1)):=aA (by rw[Bool.eq_iff_iff,bI];simp;omega);clear h0;go_enter Tryz.func93,Tryz.ntmps93
  go_wp2;go_ret
  exact⟨by rw[HR.out];rfl,rfl⟩
end
end Go.Proofs.YtppjhbjmfkiejaaGreat
