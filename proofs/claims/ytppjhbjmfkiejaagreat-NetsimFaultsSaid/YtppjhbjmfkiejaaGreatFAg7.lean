/- Ag7 Ag8 Ag9 AgG -/
import Derived.Test.YtppjhbjmfkiejaaGreatFAg3
namespace Go.Proofs.YtppjhbjmfkiejaaGreat
section
set_option maxRecDepth 100000
set_option maxHeartbeats 400000
open Go.RowKit
structure Que (w:World) (q:Nat) (F:List Nat) (lim tm pu:Int) (l:List Ev):Prop where
 rep:QRep w q F (.int .i64 lim) (.int .i64 tm) (.int .i64 pu) l
 heap:Heap l.length (el l)
 ids:∀ e∈l,1<=e.i/\e.i<=pu
 le:(l.length:Int)<=lim
 lim0:lim<=4096
theorem QRep.list {w:World} {q:Nat} {F:List Nat} {a2 a3 a4:Value} {l:List Ev} (h:QRep w q F a2 a3 a4 l) :
  ∃ p cap m,w.heap[q]? = some (.cells #[.slice p l.length cap,.map m,a2,a3,a4] 164 (0,0))/\l.length<=1000000 /\
   (∀ i e,l[i]? = some e->∃ g,p=some ⟨g,0,none⟩/\g<w.heap.size/\w.cell? ⟨g,i*3,none⟩=some (.int .i64 e.t)/\w.cell? ⟨g,i*3+1,none⟩=some (.int .i64 e.i)/\w.cell? ⟨g,i*3+2,none⟩=some (.int .i64 e.x)):=by
 rcases h with ⟨_,rfl,h⟩|⟨g,cap,b,_,h⟩
 ·exact⟨none,0,none,h,by simp,by simp⟩
 ·refine⟨some ⟨g,0,none⟩,cap,some b,h.qc,h.le,fun i e hi=>⟨g,rfl,h.row.lt,?_,?_,?_⟩⟩
  ·exact h.row.cell evc_len hi (j:=0) (by omega)
  ·exact h.row.cell evc_len hi (j:=1) (by omega)
  ·exact h.row.cell evc_len hi (j:=2) (by omega)
theorem QRep.kept {w w':World} {S:List Nat} {q:Nat} {F:List Nat} {a2 a3 a4:Value} {l:List Ev} (h:QRep w q F a2 a3 a4 l) (ho:Only S w w') (hF:∀ k∈F,k ∉ S):QRep w' q F a2 a3 a4 l:=by
 rcases h with ⟨rfl,rfl,h⟩|⟨g,cap,b,rfl,h⟩
 ·exact .inl ⟨rfl,rfl,ho.got h (hF q (by simp))⟩
 ·exact .inr ⟨g,cap,b,rfl,h.kept ho (hF q (by simp)) (hF g (by simp)) (hF b (by simp))⟩
theorem Que.kept {w w':World} {S:List Nat} {q:Nat} {F:List Nat} {lim tm pu:Int} {l:List Ev} (h:Que w q F lim tm pu l) (ho:Only S w w') (hF:∀ k∈F,k ∉ S):Que w' q F lim tm pu l:=
 ⟨h.rep.kept ho hF,h.heap,h.ids,h.le,h.lim0⟩
theorem Que.blocks {w:World} {q:Nat} {F:List Nat} {lim tm pu:Int} {l:List Ev} (h:Que w q F lim tm pu l):∀ k∈F,k<w.heap.size:=by
 rcases h.rep with ⟨rfl,_,h'⟩|⟨g,cap,b,rfl,h'⟩
 ·intro k hk;simp at hk;subst hk;exact got_lt h'
 ·intro k hk
  simp at hk;rcases hk with rfl|rfl|rfl
  ·exact got_lt h'.qc
  ·exact h'.row.lt
  ·obtain⟨D,hD,_⟩:=h'.map;exact World.ownsMap.lt hD
theorem new_ok (lim:Int) (w:World) (h1:1<=lim) (h2:lim<=4096) :
  Calls Tryz.prog 40 #[.int .i64 lim] w fun e w'=>e=.returned (.pointer (some ⟨w.heap.size,0,none⟩))/\Que w' w.heap.size [w.heap.size] lim 0 0 []/\Only [] w w':=by
 go_enter Tryz.func40,Tryz.ntmps40
 go_wp2;go_ret
 refine⟨rfl,⟨.inl ⟨rfl,rfl,alloc_new _ _⟩,fun j h1 h2=>by simp at h2,by simp,by simp;omega,h2⟩,(Only.refl [] w).alloc _⟩
theorem len_any {w:World} {q:Nat} {F:List Nat} {a2 a3 a4:Value} {l:List Ev} (h:QRep w q F a2 a3 a4 l) :
  Calls Tryz.prog 83 #[.pointer (some ⟨q,0,none⟩)] w fun e w'=>e=.returned (.int .i64 l.length)/\w=w':=by
 obtain⟨p,cap,m,hq,hle,hel⟩:=h.list;clear hel h;have c0:=cell_got hq 0;clear hq;go_enter Tryz.func83,Tryz.ntmps83
 go_wp2;go_ret
 exact⟨rfl,rfl⟩
abbrev evv (e:Ev):Value:=.agg #[.int .i64 e.t,.int .i64 e.i,.int .i64 e.x]
theorem peek_some {w:World} {q:Nat} {F:List Nat} {a2 a3 a4:Value} {l:List Ev} (h:QRep w q F a2 a3 a4 l) (hl:0<l.length) :
  Calls Tryz.prog 70 #[.pointer (some ⟨q,0,none⟩)] w fun e w'=>e=.returned (.tuple #[evv (el l 0),.bool true])/\Only [] w w':=by
 obtain⟨p,cap,m,hq,hle,hel⟩:=h.list;obtain⟨g,rfl,hgs,r0,r1,r2⟩:=hel 0 _ (el_some hl);clear hel;simp only[Nat.zero_mul,Nat.zero_add] at r0 r1 r2;have hqs:=got_lt hq;have c0:=cell_got hq 0;have H:=Lib.hid h;clear h hq;have hne:((l.length:Int) == 0)=false:=by rw[beq_eq_false_iff_ne];omega
 go_enter Tryz.func70,Tryz.ntmps70
 go_wp2_with fail
 refine (len_any (H.out.kept (S:=[]) ((Only.refl [] w).alloc _) (by simp))).mono ?_;rintro e w1 ⟨rfl,rfl⟩;go_wp2;refine bodyPost_ret (v:=.tuple #[evv (el l 0),.bool true]) (by simp[results,Tryz.results70,go_sem]) rfl ⟨rfl,?_⟩;exact (Only.refl [] w).alloc _
theorem peek_none {w:World} {q:Nat} {F:List Nat} {a2 a3 a4:Value} (h:QRep w q F a2 a3 a4 []) :
  Calls Tryz.prog 70 #[.pointer (some ⟨q,0,none⟩)] w fun e w'=>e=.returned (.tuple #[evv ⟨0,0,0⟩,.bool false])/\Only [] w w':=by
 have H:=Lib.hid h;clear h;go_enter Tryz.func70,Tryz.ntmps70
 go_wp2_with fail
 refine (len_any (H.out.kept (S:=[]) ((Only.refl [] w).alloc _) (by simp))).mono ?_;rintro e w1 ⟨rfl,rfl⟩;go_wp2;refine bodyPost_ret (v:=.tuple #[evv ⟨0,0,0⟩,.bool false]) (by simp[results,Tryz.results70,go_sem]) rfl ⟨rfl,?_⟩;exact (Only.refl [] w).alloc _
end
section
open Go.Lib (hid)
set_option maxRecDepth 100000
set_option maxHeartbeats 800000
open Go.RowKit
theorem Que.cells {w:World} {q:Nat} {F:List Nat} {lim tm pu:Int} {l:List Ev} (h:Que w q F lim tm pu l) :
  w.cell? ⟨q,2,none⟩=some (.int .i64 lim)/\w.cell? ⟨q,3,none⟩=some (.int .i64 tm)/\w.cell? ⟨q,4,none⟩=some (.int .i64 pu)/\(∀ o,w.frozen? ⟨q,o,none⟩=false)/\q<w.heap.size:=by
 obtain⟨p,cap,m,hq,_⟩:=h.rep.list;exact⟨cell_got hq 2,cell_got hq 3,cell_got hq 4,frozen_got hq,got_lt hq⟩
theorem HRep.set4 {w:World} {q g cap b:Nat} {a2 a3 a4:Value} {l:List Ev} (h:HRep w q g cap b a2 a3 a4 l) (v:Value):HRep (w.setCell ⟨q,4,none⟩ v) q g cap b a2 a3 v l:=by
 have ho:Only [q] w (w.setCell ⟨q,4,none⟩ v):=(Only.refl [q] w).setCell (by simp) _;obtain⟨D,hD,r⟩:=h.map;exact⟨setCell_got _ h.qc,h.row.kept ho (by simpa using h.qg.symm),⟨D,EMap.kept hD ho (by simpa using h.bg.2),r⟩,h.qg,h.le⟩
theorem HRep.set3 {w:World} {q g cap b:Nat} {a2 a3 a4:Value} {l:List Ev} (h:HRep w q g cap b a2 a3 a4 l) (v:Value):HRep (w.setCell ⟨q,3,none⟩ v) q g cap b a2 v a4 l:=by
 have ho:Only [q] w (w.setCell ⟨q,3,none⟩ v):=(Only.refl [q] w).setCell (by simp) _;obtain⟨D,hD,r⟩:=h.map;exact⟨setCell_got _ h.qc,h.row.kept ho (by simpa using h.qg.symm),⟨D,EMap.kept hD ho (by simpa using h.bg.2),r⟩,h.qg,h.le⟩
theorem QRep.set4 {w:World} {q:Nat} {F:List Nat} {a2 a3 a4:Value} {l:List Ev} (h:QRep w q F a2 a3 a4 l) (v:Value):QRep (w.setCell ⟨q,4,none⟩ v) q F a2 a3 v l:=by
 rcases h with ⟨rfl,rfl,h⟩|⟨g,cap,b,rfl,h⟩
 ·exact .inl ⟨rfl,rfl,setCell_got _ h⟩
 ·exact .inr ⟨g,cap,b,rfl,h.set4 v⟩
theorem QRep.qF {w:World} {q:Nat} {F:List Nat} {a2 a3 a4:Value} {l:List Ev} (h:QRep w q F a2 a3 a4 l):q∈F:=by
 rcases h with ⟨rfl,_,_⟩|⟨g,cap,b,rfl,_⟩<;>simp
theorem push_range (q:Nat) (at_ item:Int) (w:World) (h:at_<0) :
  Calls Tryz.prog 69 #[.pointer (some ⟨q,0,none⟩),.int .i64 at_,.int .i64 item] w fun e w'=>e=.returned (.tuple #[.int .i64 0,.int .i64 3])/\w=w':=by
 go_enter Tryz.func69,Tryz.ntmps69
 go_wp2;go_ret2;exact⟨rfl,rfl⟩
theorem push_order {w:World} {q:Nat} {F:List Nat} {lim tm pu:Int} {l:List Ev} (h:Que w q F lim tm pu l) (at_ item:Int) (h0:0<=at_) (h1:at_<tm) :
  Calls Tryz.prog 69 #[.pointer (some ⟨q,0,none⟩),.int .i64 at_,.int .i64 item] w fun e w'=>e=.returned (.tuple #[.int .i64 0,.int .i64 12])/\w=w':=by
 obtain⟨c2,c3,c4,hf,hqs⟩:=h.cells;clear h hf c2 c4;go_enter Tryz.func69,Tryz.ntmps69
 go_wp2;go_ret2;exact⟨rfl,rfl⟩
theorem push_full {w:World} {q:Nat} {F:List Nat} {lim tm pu:Int} {l:List Ev} (h:Que w q F lim tm pu l) (at_ item:Int) (h0:0<=at_) (h1:tm<=at_) (h2:lim<=l.length) :
  Calls Tryz.prog 69 #[.pointer (some ⟨q,0,none⟩),.int .i64 at_,.int .i64 item] w fun e w'=>e=.returned (.tuple #[.int .i64 0,.int .i64 13])/\Only [] w w':=by
 obtain⟨c2,c3,c4,hf,hqs⟩:=h.cells;have H:=hid h;clear h hf c4;go_enter Tryz.func69,Tryz.ntmps69
 go_wp2;refine wp_region_grown [0,1,2,3,4,5,6,7] [] (by kernel_rfl) (by kernel_rfl) ?_;simp only[pick,List.map_cons,List.map_nil,List.getD_cons_succ,List.getD_cons_zero];iterate 1 (refine wpQuiet_step (fun K hK=>?_);go_simp;refine hK _ ?_;clear hK K)
 refine wpQuiet_enter rfl 83 #[.pointer (some ⟨q,0,none⟩)] (fun _=>by kernel_rfl) (.int .i64 l.length) (grown_calls fun w' hw'=>(len_any (H.out.rep.kept (only_of_plus hw') (by simp))).mono fun e w'' ⟨he,hw''⟩=>⟨he,hw'' ▸ Below.refl _ _⟩) ?_;iterate 6 (refine wpQuiet_step (fun K hK=>?_);go_simp;refine hK _ ?_;clear hK K)
 refine wpQuiet_nil ?_;intro w1 hw1;have ho1:=only_of_plus hw1;clear hw1;go_wp2;go_ret2;exact⟨rfl,ho1⟩
theorem qpush_ok {w:World} {q:Nat} {F:List Nat} {lim tm pu:Int} {l:List Ev} (h:Que w q F lim tm pu l) (at_ item:Int) (h0:0<=at_) (h1:tm<=at_) (h2:l.length<lim) (hp0:0<=pu) (hp1:pu<=1000000000) :
  Calls Tryz.prog 69 #[.pointer (some ⟨q,0,none⟩),.int .i64 at_,.int .i64 item] w fun e w'=>e=.returned (.tuple #[.int .i64 (pu+1),.int .i64 0]) /\
   ∃ F' l',Que w' q F' lim tm (pu+1) l'/\Only F w w'/\(∀ k∈F',k∈F∨w.heap.size<=k)/\l'.length=l.length+1/\∀ e,e∈l'↔e=⟨at_,pu+1,item⟩∨e∈l:=by
 obtain⟨c2,c3,c4,hf,hqs⟩:=h.cells;have hl0:=h.lim0;have H:=hid h;clear h;go_enter Tryz.func69,Tryz.ntmps69
 go_wp2;refine wp_region_grown [0,1,2,3,4,5,6,7] [] (by kernel_rfl) (by kernel_rfl) ?_;simp only[pick,List.map_cons,List.map_nil,List.getD_cons_succ,List.getD_cons_zero];iterate 1 (refine wpQuiet_step (fun K hK=>?_);go_simp;refine hK _ ?_;clear hK K)
 refine wpQuiet_enter rfl 83 #[.pointer (some ⟨q,0,none⟩)] (fun _=>by kernel_rfl) (.int .i64 l.length) (grown_calls fun w' hw'=>(len_any (H.out.rep.kept (only_of_plus hw') (by simp))).mono fun e w'' ⟨he,hw''⟩=>⟨he,hw'' ▸ Below.refl _ _⟩) ?_;iterate 6 (refine wpQuiet_step (fun K hK=>?_);go_simp;refine hK _ ?_;clear hK K)
 refine wpQuiet_nil ?_;intro w1 hw1;have ho1:=only_of_plus hw1;clear hw1;have hq1:=H.out.kept ho1 (by simp);clear c2 c3 c4 hf hqs;obtain⟨c2,c3,c4,hf,hqs⟩:=hq1.cells;have f4:=hf 4;clear hf c2 c3;have HQ1:=hid hq1;clear hq1;go_wp2;refine wabs (G:=Code.wp _ _ _ _) (R:=fun w2=>QRep w2 q F (.int .i64 lim) (.int .i64 tm) (.int .i64 (pu+1)) l/\Only [q] w1 w2) ⟨HQ1.out.rep.set4 _,(Only.refl [q] w1).setCell (by simp) _⟩ ?_;rintro w2 ⟨hq2,ho2⟩;clear c4 f4 hqs;obtain⟨p,cap,m,hqc,_⟩:=hq2.list;have c4:=cell_got hqc 4;have hqs:=got_lt hqc;have HQ2:=hid hq2;have HQC:=hid hqc;clear hq2 hqc;refine wp_region_grown [0,1,2,3,4,5,6,7,8,9,10] [11] (by kernel_rfl) (by kernel_rfl) ?_;simp only[pick,List.map_cons,List.map_nil,List.getD_cons_succ,List.getD_cons_zero];iterate 11 (refine wpQuiet_step (fun K hK=>?_);go_simp;refine hK _ ?_;clear hK K)
 refine wpQuiet_nil ?_;intro w3 hw3;have ho3:=only_of_plus hw3;clear hw3;clear c4 hqs;have hwf:(Lit.int .i64 (pu+1)).wf=true:=WalkArith.wf_i64 (by omega);have hids:∀ e∈l,e.i≠pu+1:=fun e he=>by have:=H.out.ids e he;omega
 have HID:=hid hids;clear hids;go_wp2_with fail
 refine (push_any (HQ2.out.kept ho3 (by simp)) ⟨at_,pu+1,item⟩ HID.out hwf (by omega) H.out.heap).mono ?_;rintro e w4 ⟨rfl,F',l',hq4,ho4,hF4,hl4,hh4,hm4⟩;obtain⟨p4,cap4,m4,hqc4,_⟩:=hq4.list;have c4:=cell_got hqc4 4;have HQ4:=hid hq4;have HF4:=hid hF4;have HL4:=hid hl4;have HH4:=hid hh4;have HM4:=hid hm4;clear hq4 hqc4 hF4 hl4 hh4 hm4;go_wp2;go_ret2;have hs:w.heap.size<=w3.heap.size:=by have:=ho1.size;have:=ho2.size;have:=ho3.size;omega
 have o2:Only F w w2:=(ho1.weak (S':=F) (by simp)).trans ho2 (by intro k hk;simp at hk;subst hk;exact .inl H.out.rep.qF);refine⟨rfl,F',l',⟨HQ4.out,HH4.out,?_,?_,hl0⟩,(o2.nil_trans ho3).trans ho4 (fun _ h=>.inl h),?_,HL4.out,HM4.out⟩
 ·intro e he
  rcases (HM4.out e).1 he with rfl|h
  ·exact⟨by simp;omega,by simp⟩
  ·have:=H.out.ids e h;omega
 ·rw[HL4.out];omega
 ·intro k hk
  rcases HF4.out k hk with h|h
  ·exact .inl h
  ·exact .inr (by omega)
end
section
open Go.Lib (hid)
set_option maxRecDepth 100000
set_option maxHeartbeats 800000
open Go.RowKit
theorem QRep.hrep {w:World} {q:Nat} {F:List Nat} {a2 a3 a4:Value} {l:List Ev} (h:QRep w q F a2 a3 a4 l) (hl:0<l.length):∃ g cap b,F=[q,g,b]/\HRep w q g cap b a2 a3 a4 l:=by
 rcases h with ⟨_,rfl,_⟩|h
 ·simp at hl
 ·exact h
theorem pop_some {w:World} {q:Nat} {F:List Nat} {lim tm pu:Int} {l:List Ev} (h:Que w q F lim tm pu l) (hl:0<l.length) :
  Calls Tryz.prog 46 #[.pointer (some ⟨q,0,none⟩)] w fun e w'=>e=.returned (.tuple #[evv (el l 0),.bool true]) /\
   ∃ l',Que w' q F lim (el l 0).t pu l'/\Only F w w'/\l'.length+1=l.length/\∀ e,e∈l'↔e∈l/\e.i≠(el l 0).i:=by
 have H:=hid h;clear h;go_enter Tryz.func46,Tryz.ntmps46
 go_wp2_with fail
 refine (peek_some (H.out.rep.kept (S:=[]) ((Only.refl [] w).alloc _) (by simp)) hl).mono ?_;rintro e w1 ⟨rfl,ho1⟩;have hr:w1.heap[w.heap.size]? = some (.cells #[.int .i64 0,.int .i64 0,.int .i64 0] 136 (0,0)):=ho1.got (alloc_new _ _) (by simp);have ho1':Only [] w w1:=Only.nil_trans ((Only.refl [] w).alloc _) ho1;clear ho1;have HRS:=hid hr;clear hr;obtain⟨g,cap,b,hF,hrep⟩:=H.out.rep.hrep hl;have HRP:=hid hrep;have HFF:=hid hF;clear hrep hF;have hws:=got_lt HRS.out;have hFs:=H.out.blocks;rw[HFF.out] at hFs;have hqs:q<w.heap.size:=hFs q (by simp);have hgs:g<w.heap.size:=hFs g (by simp);have hbs:b<w.heap.size:=hFs b (by simp);clear hFs;go_wp2_with fail
 refine alloc_abs (G:=fun w0=>Calls _ _ _ w0 _) ?_;intro w2 hb2 ho2 hs2;have HB2:=hid hb2;have HS2:=hid hs2;clear hb2 hs2;have hs12:w1.heap.size<w2.heap.size:=by have:=HS2.out;omega
 show Calls _ _ #[_,.int .i64 ((0:Nat):Int)] _ _
 refine (remove_any (HRP.out.kept (ho1'.nil_trans ho2) (by simp) (by simp) (by simp)) hl H.out.heap).mono ?_;rintro e w3 ⟨rfl,l',hrep3,ho3,hl3,hh3,hm3⟩;have hb3:=ho3.got HB2.out (by simp;omega);have hr3:=ho3.got (ho2.got HRS.out (by simp)) (by simp;omega);have e0:=cell_got hb3 0;have e1:=cell_got hb3 1;have e2:=cell_got hb3 2;have r0:=cell_got hr3 0;have r1:=cell_got hr3 1;have r2:=cell_got hr3 2;have f0:=frozen_got hr3 0;have f1:=frozen_got hr3 1;have f2:=frozen_got hr3 2;have q3:=cell_got hrep3.qc 3;have fq:=frozen_got hrep3.qc 3;have n1:q≠w.heap.size:=by omega
 have n2:q≠w1.heap.size:=by omega
 have n3:w.heap.size≠w1.heap.size:=by omega
 have n4:w.heap.size≠q:=by omega
 have n5:w1.heap.size≠q:=by omega
 have n6:w1.heap.size≠w.heap.size:=by omega
 have HR3:=hid hrep3;have HL3:=hid hl3;have HH3:=hid hh3;have HM3:=hid hm3;have HRR:=hid hr3;clear hrep3 hl3 hh3 hm3 hb3 hr3;go_wp2;refine wabs (G:=bodyPost _ _ _ _ _) (R:=fun wf=>HRep wf q g cap b (.int .i64 lim) (.int .i64 (el l 0).t) (.int .i64 pu) l'/\wf.heap[w.heap.size]? = some (.cells #[.int .i64 (el l 0).t,.int .i64 (el l 0).i,.int .i64 (el l 0).x] 136 (0,0))/\Only [q,w.heap.size] w3 wf) ?_ ?_
 ·refine⟨?_,?_,?_⟩
  ·have h1:=HR3.out.set3 (.int .i64 (el l 0).t)
   have ho:Only [w.heap.size] (w3.setCell ⟨q,3,none⟩ (.int .i64 (el l 0).t)) ((((w3.setCell ⟨q,3,none⟩ (.int .i64 (el l 0).t)).setCell ⟨w.heap.size,0,none⟩ (.int .i64 (el l 0).t)).setCell ⟨w.heap.size,1,none⟩ (.int .i64 (el l 0).i)).setCell ⟨w.heap.size,2,none⟩ (.int .i64 (el l 0).x)):=
    (((Only.refl [w.heap.size] _).setCell (by simp) _).setCell (by simp) _).setCell (by simp) _
   exact h1.kept ho (by simp;omega) (by simp;omega) (by simp;omega)
  ·have h0:(w3.setCell ⟨q,3,none⟩ (.int .i64 (el l 0).t)).heap[w.heap.size]? = some (.cells #[.int .i64 0,.int .i64 0,.int .i64 0] 136 (0,0)):=by
    rw[Below.heap_setCell _ _ _ _ n4];exact HRR.out
   exact setCell_got (o:=2) _ (setCell_got (o:=1) _ (setCell_got (o:=0) _ h0))
  ·exact ((((Only.refl [q,w.heap.size] w3).setCell (by simp) _).setCell (by simp) _).setCell (by simp) _).setCell (by simp) _
 rintro wf ⟨hf1,hf2,hf3⟩;clear e0 e1 e2 r0 r1 r2 f0 f1 f2 q3 fq;have r0:=cell_got hf2 0;have r1:=cell_got hf2 1;have r2:=cell_got hf2 2;refine bodyPost_ret (v:=.tuple #[evv (el l 0),.bool true]) (by simp[results,Tryz.results46,go_sem,r0,r1,r2]) rfl ⟨rfl,l',⟨.inr ⟨g,cap,b,HFF.out,hf1⟩,HH3.out,?_,?_,H.out.lim0⟩,?_,HL3.out,HM3.out⟩
 ·intro e he;exact H.out.ids e ((HM3.out e).1 he).1
 ·have:=HL3.out;have:=H.out.le;omega
 ·rw[HFF.out]
  have o3:Only [q,g,b] w w3:=(ho1'.nil_trans ho2).nil_left ho3;exact o3.trans hf3 (by intro k hk;simp at hk;rcases hk with rfl|rfl;exact .inl (by simp);exact .inr (Nat.le_refl _))
theorem pop_none {w:World} {q:Nat} {F:List Nat} {a2 a3 a4:Value} (h:QRep w q F a2 a3 a4 []) :
  Calls Tryz.prog 46 #[.pointer (some ⟨q,0,none⟩)] w fun e w'=>e=.returned (.tuple #[evv ⟨0,0,0⟩,.bool false])/\Only [] w w':=by
 have H:=hid h;clear h;go_enter Tryz.func46,Tryz.ntmps46
 go_wp2_with fail
 refine (peek_none (H.out.kept (S:=[]) ((Only.refl [] w).alloc _) (by simp))).mono ?_;rintro e w1 ⟨rfl,ho1⟩;have hr:w1.heap[w.heap.size]? = some (.cells #[.int .i64 0,.int .i64 0,.int .i64 0] 136 (0,0)):=ho1.got (alloc_new _ _) (by simp);have ho1':Only [] w w1:=Only.nil_trans ((Only.refl [] w).alloc _) ho1;have r0:=cell_got hr 0;have r1:=cell_got hr 1;have r2:=cell_got hr 2;have f0:=frozen_got hr 0;have f1:=frozen_got hr 1;have f2:=frozen_got hr 2;have hws:=got_lt hr;have hne:w.heap.size≠w1.heap.size:=by omega
 have HR:=hid hr;clear hr ho1;go_wp2;refine wabs (G:=bodyPost _ _ _ _ _) (R:=fun wf=>wf.heap[w.heap.size]? = some (.cells #[.int .i64 0,.int .i64 0,.int .i64 0] 136 (0,0))/\Only [] w wf) ?_ ?_
 ·refine⟨alloc_old (setCell_got (o:=2) _ (setCell_got (o:=1) _ (setCell_got (o:=0) _ HR.out))),?_⟩
  have o1:Only [w.heap.size] w1 ((((w1.setCell ⟨w.heap.size,0,none⟩ (.int .i64 0)).setCell ⟨w.heap.size,1,none⟩ (.int .i64 0)).setCell ⟨w.heap.size,2,none⟩ (.int .i64 0)).alloc (Obj.cells #[.int .i64 0,.int .i64 0,.int .i64 0] 136)):=
   ((((Only.refl [w.heap.size] w1).setCell (by simp) _).setCell (by simp) _).setCell (by simp) _).alloc _
  exact ho1'.trans o1 (by simp)
 rintro wf ⟨hf2,hf3⟩;clear r0 r1 r2 f0 f1 f2;have r0:=cell_got hf2 0;have r1:=cell_got hf2 1;have r2:=cell_got hf2 2;exact bodyPost_ret (v:=.tuple #[evv ⟨0,0,0⟩,.bool false]) (by simp[results,Tryz.results46,go_sem,r0,r1,r2]) rfl ⟨rfl,hf3⟩
end
section
open Go.RowKit
def pushId (lim tm pu:Int) (n:Nat) (at_:Int):Int:=if at_<0 then 0 else if at_<tm then 0 else if lim<=n then 0 else pu+1
def pushErr (lim tm:Int) (n:Nat) (at_:Int):Int:=if at_<0 then 3 else if at_<tm then 12 else if lim<=n then 13 else 0
def PushTo (lim tm pu:Int) (l:List Ev) (at_ item pu':Int) (l':List Ev):Prop:=
 (pushErr lim tm l.length at_=0/\pu'=pu+1/\0<=at_/\tm<=at_/\l.length<lim/\l'.length=l.length+1/\∀ e,e∈l'↔e=⟨at_,pu+1,item⟩∨e∈l) ∨
 (pushErr lim tm l.length at_≠0/\pu'=pu/\l'.length=l.length/\∀ e,e∈l'↔e∈l)
theorem push_gen {w:World} {q:Nat} {F:List Nat} {lim tm pu:Int} {l:List Ev} (h:Que w q F lim tm pu l) (at_ item:Int) (hp0:0<=pu) (hp1:pu<=1000000000) :
  Calls Tryz.prog 69 #[.pointer (some ⟨q,0,none⟩),.int .i64 at_,.int .i64 item] w fun e w' =>
   e=.returned (.tuple #[.int .i64 (pushId lim tm pu l.length at_),.int .i64 (pushErr lim tm l.length at_)]) /\
   ∃ F' l' pu',Que w' q F' lim tm pu' l'/\Only F w w'/\(∀ k∈F',k∈F∨w.heap.size<=k)/\PushTo lim tm pu l at_ item pu' l':=by
 unfold pushId pushErr PushTo;by_cases h1:at_<0
 ·refine (push_range q at_ item w h1).mono ?_
  rintro e w' ⟨rfl,rfl⟩;refine⟨by rw[if_pos h1,if_pos h1],F,l,pu,h,Only.refl _ _,fun _ h=>.inl h,.inr ⟨?_,rfl,rfl,fun _=>Iff.rfl⟩⟩;unfold pushErr;rw[if_pos h1];omega
 ·by_cases h2:at_<tm
  ·refine (push_order h at_ item (by omega) h2).mono ?_
   rintro e w' ⟨rfl,rfl⟩;refine⟨by rw[if_neg h1,if_pos h2,if_neg h1,if_pos h2],F,l,pu,h,Only.refl _ _,fun _ h=>.inl h,.inr ⟨?_,rfl,rfl,fun _=>Iff.rfl⟩⟩;unfold pushErr;rw[if_neg h1,if_pos h2];omega
  ·by_cases h3:lim<=l.length
   ·refine (push_full h at_ item (by omega) (by omega) h3).mono ?_
    rintro e w' ⟨rfl,ho⟩;refine⟨by rw[if_neg h1,if_neg h2,if_pos h3,if_neg h1,if_neg h2,if_pos h3],F,l,pu,h.kept ho (by simp),ho.weak (by simp),fun _ h=>.inl h,.inr ⟨?_,rfl,rfl,fun _=>Iff.rfl⟩⟩;unfold pushErr;rw[if_neg h1,if_neg h2,if_pos h3];omega
   ·refine (qpush_ok h at_ item (by omega) (by omega) (by omega) hp0 hp1).mono ?_
    rintro e w' ⟨rfl,F',l',hq,ho,hF,hl,hm⟩;refine⟨by rw[if_neg h1,if_neg h2,if_neg h3,if_neg h1,if_neg h2,if_neg h3],F',l',pu+1,hq,ho,hF,.inl ⟨?_,rfl,by omega,by omega,by omega,hl,hm⟩⟩;unfold pushErr;rw[if_neg h1,if_neg h2,if_neg h3]
theorem pop_gen {w:World} {q:Nat} {F:List Nat} {lim tm pu:Int} {l:List Ev} (h:Que w q F lim tm pu l) :
  Calls Tryz.prog 46 #[.pointer (some ⟨q,0,none⟩)] w fun e w'=>e=.returned (.tuple #[evv (el l 0),.bool (decide (0<l.length))]) /\
   ∃ tm' l',Que w' q F lim tm' pu l'/\Only F w w'/\tm'=(if 0<l.length then (el l 0).t else tm)/\l'.length=l.length-1/\∀ e,e∈l'↔e∈l/\e.i≠(el l 0).i:=by
 by_cases hl:0<l.length
 ·refine (pop_some h hl).mono ?_
  rintro e w' ⟨rfl,l',hq,ho,hl',hm⟩;exact⟨by simp[hl],_,l',hq,ho,by rw[if_pos hl],by omega,hm⟩
 ·have:l=[]:=List.eq_nil_of_length_eq_zero (by omega)
  subst this;refine (pop_none h.rep).mono ?_;rintro e w' ⟨rfl,ho⟩;exact⟨rfl,tm,[],h.kept ho (by simp),ho.weak (by simp),rfl,rfl,by simp⟩
end
end Go.Proofs.YtppjhbjmfkiejaaGreat
