/- Nj Nk Nl -/
import Derived.Test.YtppjhbjmfkiejaaGreatFNh
import Derived.Deep.MidRow
namespace Go.Proofs.YtppjhbjmfkiejaaGreat
set_option linter.all false
set_option maxRecDepth 100000
set_option maxHeartbeats 8000000
open Go.RowKit Go.Sort
open IntKind (wrap)
theorem pAtt1 {w:World} {b0 bf ba bs:Nat} {g:Fg} {f:Ft} {t:Int} (h0:w.heap[b0]? = some (.cells #[.pointer (some ⟨bs,0,none⟩)] 325 (0,0))) (hf:w.heap[bf]? = some (.cells #[.int .i64 f.n,.int .i64 f.f,.int .i64 f.t,.int .i64 f.k,.int .i64 f.v] 44 (0,0))) (ha:w.heap[ba]? = some (.cells #[.int .i64 t] 3 (0,0))) (hs:w.heap[bs]? = some (.cells (jJ g).toArray 315 (0,0)))
  (n1:bf≠b0) (n2:ba≠bf) (n3:ba≠b0) (n4:bs≠ba) (n5:bs≠bf) (n6:bs≠b0) (t0:0<=t) (t1:t<=1125899906842624) (v0: -1125899906842624<=f.v) (v1:f.v<=1125899906842624) :
  Calls Tryz.prog 187 #[.func (.func 188) #[] #[.pointer (some ⟨b0,0,none⟩),.pointer (some ⟨bf,0,none⟩),.pointer (some ⟨ba,0,none⟩)]] w fun e w'=>e=.returned (.tuple #[])/\w'.heap[bs]? = some (.cells (jJ (g.wW (jC g.hd.rcv f.v t))).toArray 315 (0,0))/\Oy [bs] w w':=
 vT _ _ (fun _=>by kernel_rfl) (pForge1 h0 hf ha hs n1 n2 n3 n4 n5 n6 t0 t1 v0 v1)
theorem pAtt2 {w:World} {b0 bf ba bs:Nat} {g:Fg} {f:Ft} {t:Int} (h0:w.heap[b0]? = some (.cells #[.pointer (some ⟨bs,0,none⟩)] 325 (0,0))) (hf:w.heap[bf]? = some (.cells #[.int .i64 f.n,.int .i64 f.f,.int .i64 f.t,.int .i64 f.k,.int .i64 f.v] 44 (0,0))) (ha:w.heap[ba]? = some (.cells #[.int .i64 t] 3 (0,0))) (hs:w.heap[bs]? = some (.cells (jJ g).toArray 315 (0,0)))
  (n1:bf≠b0) (n2:ba≠bf) (n3:ba≠b0) (n4:bs≠ba) (n5:bs≠bf) (n6:bs≠b0) (t0:0<=t) (t1:t<=1125899906842624) (v0: -1125899906842624<=f.v) (v1:f.v<=1125899906842624) :
  Calls Tryz.prog 187 #[.func (.func 190) #[] #[.pointer (some ⟨b0,0,none⟩),.pointer (some ⟨bf,0,none⟩),.pointer (some ⟨ba,0,none⟩)]] w fun e w'=>e=.returned (.tuple #[])/\w'.heap[bs]? = some (.cells (jJ (g.GL (jC g.hd.xmt f.v t))).toArray 315 (0,0))/\Oy [bs] w w':=
 vT _ _ (fun _=>by kernel_rfl) (pForge2 h0 hf ha hs n1 n2 n3 n4 n5 n6 t0 t1 v0 v1)
theorem pAtt3 {w:World} {b0 bf bs:Nat} {g:Fg} {f:Ft} (h0:w.heap[b0]? = some (.cells #[.pointer (some ⟨bs,0,none⟩)] 325 (0,0))) (hf:w.heap[bf]? = some (.cells #[.int .i64 f.n,.int .i64 f.f,.int .i64 f.t,.int .i64 f.k,.int .i64 f.v] 44 (0,0))) (hs:w.heap[bs]? = some (.cells (jJ g).toArray 315 (0,0)))
  (n1:bf≠b0) (n5:bs≠bf) (n6:bs≠b0) (v0: -1125899906842624<=f.v) (v1:f.v<=1125899906842624)  :
  Calls Tryz.prog 187 #[.func (.func 191) #[] #[.pointer (some ⟨b0,0,none⟩),.pointer (some ⟨bf,0,none⟩)]] w fun e w'=>e=.returned (.tuple #[])/\w'.heap[bs]? = some (.cells (jJ (g.yV (LC g.iv f.v))).toArray 315 (0,0))/\Oy [bs] w w':=
 vT _ _ (fun _=>by kernel_rfl) (pForge3 h0 hf hs n1 n5 n6 v0 v1)
theorem pAtt4 {w:World} {b0 bf bs:Nat} {g:Fg} {f:Ft} (h0:w.heap[b0]? = some (.cells #[.pointer (some ⟨bs,0,none⟩)] 325 (0,0))) (hf:w.heap[bf]? = some (.cells #[.int .i64 f.n,.int .i64 f.f,.int .i64 f.t,.int .i64 f.k,.int .i64 f.v] 44 (0,0))) (hs:w.heap[bs]? = some (.cells (jJ g).toArray 315 (0,0)))
  (n1:bf≠b0) (n5:bs≠bf) (n6:bs≠b0) (v0: -1125899906842624<=f.v) (v1:f.v<=1125899906842624)  :
  Calls Tryz.prog 187 #[.func (.func 194) #[] #[.pointer (some ⟨b0,0,none⟩),.pointer (some ⟨bf,0,none⟩)]] w fun e w'=>e=.returned (.tuple #[])/\w'.heap[bs]? = some (.cells (jJ (g.yV (IE g.iv f.v))).toArray 315 (0,0))/\Oy [bs] w w':=
 vT _ _ (fun _=>by kernel_rfl) (pForge4 h0 hf hs n1 n5 n6 v0 v1)
def FE (f:Ft):Value:=.agg #[.int .i64 f.n,.int .i64 f.f,.int .i64 f.t,.int .i64 f.k,.int .i64 f.v]
theorem pForgeS {w:World} {bs:Nat} {g:Fg} {f:Ft} {t:Int} (hs:w.heap[bs]? = some (.cells (jJ g).toArray 315 (0,0))) (t0:0<=t) (t1:t<=1125899906842624) (v0: -1125899906842624<=f.v) (v1:f.v<=1125899906842624) (hk:f.k=2) :
  Calls Tryz.prog 181 #[.pointer (some ⟨bs,0,none⟩),FE f,.int .i64 t] w fun e w'=>e=.returned (.tuple #[])/\w'.heap[bs]? = some (.cells (jJ (((g.wW (jC g.hd.rcv f.v t)).GL (jC (g.wW (jC g.hd.rcv f.v t)).hd.xmt f.v t)).yV (LC ((g.wW (jC g.hd.rcv f.v t)).GL (jC (g.wW (jC g.hd.rcv f.v t)).hd.xmt f.v t)).iv f.v))).toArray 315 (0,0))/\Oy [bs] w w':=by
 obtain⟨f1,f2,f3,f4,f5⟩:=f;dsimp only at hk v0 v1 |-;subst hk;have HT:=aA (And.intro t0 (And.intro t1 (And.intro v0 v1)));clear t0 t1 v0 v1;unfold FE;dsimp only;have hmf:∀ (fn:Fn) (first cap:Array Value) (w:World),(Instr.makeFunc fn first cap).run Tryz.prog w=.ok (.func fn first cap) w:=fun _ _ _ _=>rfl;have m:=kV hs;have k:=m.zK;clear hs;go_enter Tryz.func181,Tryz.ntmps181
 go_wp2_with (first|((with_reducible first|refine cP (pAtt1 (f:=⟨f1,f2,f3,2,f5⟩) gB gB gB gB (gN w) (gN w) (gN w) (gN w) (gN w) (gN w) HT.out.1 HT.out.2.1 HT.out.2.2.1 HT.out.2.2.2) ?_|refine cP (pAtt2 (f:=⟨f1,f2,f3,2,f5⟩) gB gB gB gB (gN w) (gN w) (gN w) (gN w) (gN w) (gN w) HT.out.1 HT.out.2.1 HT.out.2.2.1 HT.out.2.2.2) ?_|refine cP (pAtt3 (f:=⟨f1,f2,f3,2,f5⟩) gB gB gB (gN w) (gN w) (gN w) HT.out.2.2.1 HT.out.2.2.2) ?_|refine cU ?_|refine wU ?_);clear k m;intro w m k)|((with_reducible refine lN ?_ ?_ (fun w o g=>?_));(. rfl);(. rfl);exact⟨rfl,Has.h w g,o⟩))
theorem pForgeN {w:World} {bs:Nat} {g:Fg} {f:Ft} {t:Int} (hs:w.heap[bs]? = some (.cells (jJ g).toArray 315 (0,0))) (t0:0<=t) (t1:t<=1125899906842624) (v0: -1125899906842624<=f.v) (v1:f.v<=1125899906842624) (hk:f.k=3) :
  Calls Tryz.prog 181 #[.pointer (some ⟨bs,0,none⟩),FE f,.int .i64 t] w fun e w'=>e=.returned (.tuple #[])/\w'.heap[bs]? = some (.cells (jJ (g.yV (IE g.iv f.v))).toArray 315 (0,0))/\Oy [bs] w w':=by
 obtain⟨f1,f2,f3,f4,f5⟩:=f;dsimp only at hk v0 v1 |-;subst hk;have HT:=aA (And.intro t0 (And.intro t1 (And.intro v0 v1)));clear t0 t1 v0 v1;unfold FE;dsimp only;have hmf:∀ (fn:Fn) (first cap:Array Value) (w:World),(Instr.makeFunc fn first cap).run Tryz.prog w=.ok (.func fn first cap) w:=fun _ _ _ _=>rfl;have m:=kV hs;have k:=m.zK;clear hs;go_enter Tryz.func181,Tryz.ntmps181
 go_wp2_with (first|((with_reducible first|refine cP (pAtt4 (f:=⟨f1,f2,f3,3,f5⟩) gB gB gB (gN w) (gN w) (gN w) HT.out.2.2.1 HT.out.2.2.2) ?_|refine cU ?_|refine wU ?_);clear k m;intro w m k)|((with_reducible refine lN ?_ ?_ (fun w o g=>?_));(. rfl);(. rfl);exact⟨rfl,Has.h w g,o⟩))
theorem frg1 {t:Int} {g:Fg} {f:Ft} (h:f.k=1):gM t g f={ g with drop:=true }:=by
 unfold gM;rw[if_pos h]
theorem Y4 {w:World} {bs:Nat} {g:Fg} {f:Ft} {t:Int} (hs:w.heap[bs]? = some (.cells (jJ g).toArray 315 (0,0))) (hk:f.k=1) :
  Calls Tryz.prog 181 #[.pointer (some ⟨bs,0,none⟩),FE f,.int .i64 t] w fun e w'=>e=.returned (.tuple #[])/\w'.heap[bs]? = some (.cells (jJ ({ g with drop:=true })).toArray 315 (0,0))/\Oy [bs] w w':=by
 obtain⟨f1,f2,f3,f4,f5⟩:=f;obtain⟨gd,⟨q1,q2,q3,q4,q5,q6,q7,q8,q9,qa,qb,qc,qd⟩,⟨x1,x2⟩,gh⟩:=g;dsimp only at hk |-;subst hk;unfold FE;unfold jJ at hs |-;dsimp only at hs |-;have m:=kV hs;have k:=m.zK;clear hs;go_enter Tryz.func181,Tryz.ntmps181
 go_upto_region 1 with (fail)
 refine wU ?_;clear k m;intro w m k;go_wp2_with (first|((with_reducible first|refine cU ?_|refine wU ?_);clear k m;intro w m k)|((with_reducible refine lN ?_ ?_ (fun w o g=>?_));(. rfl);(. rfl);exact⟨rfl,Has.h w g,o⟩))
theorem frg4 {t:Int} {g:Fg} {f:Ft} (h:f.k=4):gM t g f={ g with hd:={ g.hd with leap:=3,strat:=0 } }:=by
 unfold gM;rw[if_neg (by omega)];rw[if_neg (by omega)];rw[if_neg (by omega)];rw[if_pos h]
theorem Y3 {w:World} {bs:Nat} {g:Fg} {f:Ft} {t:Int} (hs:w.heap[bs]? = some (.cells (jJ g).toArray 315 (0,0))) (hk:f.k=4) :
  Calls Tryz.prog 181 #[.pointer (some ⟨bs,0,none⟩),FE f,.int .i64 t] w fun e w'=>e=.returned (.tuple #[])/\w'.heap[bs]? = some (.cells (jJ ({ g with hd:={ g.hd with leap:=3,strat:=0 } })).toArray 315 (0,0))/\Oy [bs] w w':=by
 obtain⟨f1,f2,f3,f4,f5⟩:=f;obtain⟨gd,⟨q1,q2,q3,q4,q5,q6,q7,q8,q9,qa,qb,qc,qd⟩,⟨x1,x2⟩,gh⟩:=g;dsimp only at hk |-;subst hk;unfold FE;unfold jJ at hs |-;dsimp only at hs |-;have m:=kV hs;have k:=m.zK;clear hs;go_enter Tryz.func181,Tryz.ntmps181
 go_upto_region 1 with (fail)
 refine wU ?_;clear k m;intro w m k;go_wp2_with (first|((with_reducible refine rX (id:=11) [] [0,1,5,9] 10 (by kernel_rfl) (by kernel_rfl) ?_);simp only[bV];(repeat (refine aJ (fun K hK=>?_);go_simp;refine hK _ ?_;clear hK K));refine aK ?_;clear k m;intro w m k;((iterate 10 all_goals ((first|refine xN [0,1] (by decide +kernel) ?_|refine xN [1,2] (by decide +kernel) ?_|refine xN [2] (by decide +kernel) ?_|refine xN [3] (by decide +kernel) ?_|refine xN [4] (by decide +kernel) ?_|refine xN [5] (by decide +kernel) ?_|refine xN [6] (by decide +kernel) ?_|refine xN [7] (by decide +kernel) ?_|refine xN [8] (by decide +kernel) ?_|refine xN [9] (by decide +kernel) ?_|refine xN [1,3] (by decide +kernel) ?_|refine xN [1,4] (by decide +kernel) ?_|refine xN [1,5] (by decide +kernel) ?_|refine xN [1] (by decide +kernel) ?_|refine xN [0] (by decide +kernel) ?_);simp only[List.mem_cons,List.not_mem_nil,or_false,forall_eq_or_imp,forall_eq];(repeat' with_reducible refine And.intro ?_ ?_);all_goals (refine aD rfl ?_;go_wp2;simp only[bA];refine⟨aT (by kernel_rfl),tW ?_⟩;clear k m;intro w m k)));all_goals unfold SN))|((with_reducible first|refine cU ?_|refine wU ?_);clear k m;intro w m k)|((with_reducible refine lN ?_ ?_ (fun w o g=>?_));(. rfl);(. rfl);exact⟨rfl,Has.h w g,o⟩))
theorem frg5 {t:Int} {g:Fg} {f:Ft} (h:f.k=5):gM t g f={ g with hd:={ g.hd with strat:=f.v } }:=by
 unfold gM;rw[if_neg (by omega)];rw[if_neg (by omega)];rw[if_neg (by omega)];rw[if_neg (by omega)];rw[if_pos h]
theorem Y0 {w:World} {bs:Nat} {g:Fg} {f:Ft} {t:Int} (hs:w.heap[bs]? = some (.cells (jJ g).toArray 315 (0,0))) (hk:f.k=5) :
  Calls Tryz.prog 181 #[.pointer (some ⟨bs,0,none⟩),FE f,.int .i64 t] w fun e w'=>e=.returned (.tuple #[])/\w'.heap[bs]? = some (.cells (jJ ({ g with hd:={ g.hd with strat:=f.v } })).toArray 315 (0,0))/\Oy [bs] w w':=by
 obtain⟨f1,f2,f3,f4,f5⟩:=f;obtain⟨gd,⟨q1,q2,q3,q4,q5,q6,q7,q8,q9,qa,qb,qc,qd⟩,⟨x1,x2⟩,gh⟩:=g;dsimp only at hk |-;subst hk;unfold FE;unfold jJ at hs |-;dsimp only at hs |-;have m:=kV hs;have k:=m.zK;clear hs;go_enter Tryz.func181,Tryz.ntmps181
 go_upto_region 1 with (fail)
 refine wU ?_;clear k m;intro w m k;go_wp2_with (first|((with_reducible first|refine cU ?_|refine wU ?_);clear k m;intro w m k)|((with_reducible refine lN ?_ ?_ (fun w o g=>?_));(. rfl);(. rfl);exact⟨rfl,Has.h w g,o⟩))
theorem frg6 {t:Int} {g:Fg} {f:Ft} (h:f.k=6):gM t g f={ g with hd:={ g.hd with leap:=f.v } }:=by
 unfold gM;rw[if_neg (by omega)];rw[if_neg (by omega)];rw[if_neg (by omega)];rw[if_neg (by omega)];rw[if_neg (by omega)];rw[if_pos h]
theorem YZ {w:World} {bs:Nat} {g:Fg} {f:Ft} {t:Int} (hs:w.heap[bs]? = some (.cells (jJ g).toArray 315 (0,0))) (hk:f.k=6) :
  Calls Tryz.prog 181 #[.pointer (some ⟨bs,0,none⟩),FE f,.int .i64 t] w fun e w'=>e=.returned (.tuple #[])/\w'.heap[bs]? = some (.cells (jJ ({ g with hd:={ g.hd with leap:=f.v } })).toArray 315 (0,0))/\Oy [bs] w w':=by
 obtain⟨f1,f2,f3,f4,f5⟩:=f;obtain⟨gd,⟨q1,q2,q3,q4,q5,q6,q7,q8,q9,qa,qb,qc,qd⟩,⟨x1,x2⟩,gh⟩:=g;dsimp only at hk |-;subst hk;unfold FE;unfold jJ at hs |-;dsimp only at hs |-;have m:=kV hs;have k:=m.zK;clear hs;go_enter Tryz.func181,Tryz.ntmps181
 go_upto_region 1 with (fail)
 refine wU ?_;clear k m;intro w m k;go_wp2_with (first|((with_reducible first|refine cU ?_|refine wU ?_);clear k m;intro w m k)|((with_reducible refine lN ?_ ?_ (fun w o g=>?_));(. rfl);(. rfl);exact⟨rfl,Has.h w g,o⟩))
theorem frg7 {t:Int} {g:Fg} {f:Ft} (h:f.k=7):gM t g f={ g with hd:={ g.hd with org:=bits .xor .u64 g.hd.org 1 } }:=by
 unfold gM;rw[if_neg (by omega)];rw[if_neg (by omega)];rw[if_neg (by omega)];rw[if_neg (by omega)];rw[if_neg (by omega)];rw[if_neg (by omega)];rw[if_pos h]
theorem YX {w:World} {bs:Nat} {g:Fg} {f:Ft} {t:Int} (hs:w.heap[bs]? = some (.cells (jJ g).toArray 315 (0,0))) (hk:f.k=7) :
  Calls Tryz.prog 181 #[.pointer (some ⟨bs,0,none⟩),FE f,.int .i64 t] w fun e w'=>e=.returned (.tuple #[])/\w'.heap[bs]? = some (.cells (jJ ({ g with hd:={ g.hd with org:=bits .xor .u64 g.hd.org 1 } })).toArray 315 (0,0))/\Oy [bs] w w':=by
 obtain⟨f1,f2,f3,f4,f5⟩:=f;obtain⟨gd,⟨q1,q2,q3,q4,q5,q6,q7,q8,q9,qa,qb,qc,qd⟩,⟨x1,x2⟩,gh⟩:=g;dsimp only at hk |-;subst hk;unfold FE;unfold jJ at hs |-;dsimp only at hs |-;have m:=kV hs;have k:=m.zK;clear hs;go_enter Tryz.func181,Tryz.ntmps181
 go_upto_region 1 with (fail)
 refine wU ?_;clear k m;intro w m k;go_wp2_with (first|((with_reducible first|refine cU ?_|refine wU ?_);clear k m;intro w m k)|((with_reducible refine lN ?_ ?_ (fun w o g=>?_));(. rfl);(. rfl);exact⟨rfl,Has.h w g,o⟩))
theorem frg8 {t:Int} {g:Fg} {f:Ft} (h:f.k=8):gM t g f={ g with hd:={ g.hd with leap:=3,strat:=0,rid:=1380013125 } }:=by
 unfold gM;rw[if_neg (by omega)];rw[if_neg (by omega)];rw[if_neg (by omega)];rw[if_neg (by omega)];rw[if_neg (by omega)];rw[if_neg (by omega)];rw[if_neg (by omega)];rw[if_pos h]
theorem YW {w:World} {bs:Nat} {g:Fg} {f:Ft} {t:Int} (hs:w.heap[bs]? = some (.cells (jJ g).toArray 315 (0,0))) (hk:f.k=8) :
  Calls Tryz.prog 181 #[.pointer (some ⟨bs,0,none⟩),FE f,.int .i64 t] w fun e w'=>e=.returned (.tuple #[])/\w'.heap[bs]? = some (.cells (jJ ({ g with hd:={ g.hd with leap:=3,strat:=0,rid:=1380013125 } })).toArray 315 (0,0))/\Oy [bs] w w':=by
 obtain⟨f1,f2,f3,f4,f5⟩:=f;obtain⟨gd,⟨q1,q2,q3,q4,q5,q6,q7,q8,q9,qa,qb,qc,qd⟩,⟨x1,x2⟩,gh⟩:=g;dsimp only at hk |-;subst hk;unfold FE;unfold jJ at hs |-;dsimp only at hs |-;have m:=kV hs;have k:=m.zK;clear hs;go_enter Tryz.func181,Tryz.ntmps181
 go_upto_region 1 with (fail)
 refine wU ?_;clear k m;intro w m k;go_wp2_with (first|((with_reducible refine rX (id:=19) [] [0,1,5,9] 10 (by kernel_rfl) (by kernel_rfl) ?_);simp only[bV];(repeat (refine aJ (fun K hK=>?_);go_simp;refine hK _ ?_;clear hK K));refine aK ?_;clear k m;intro w m k;((iterate 10 all_goals ((first|refine xN [0,1] (by decide +kernel) ?_|refine xN [1,2] (by decide +kernel) ?_|refine xN [2] (by decide +kernel) ?_|refine xN [3] (by decide +kernel) ?_|refine xN [4] (by decide +kernel) ?_|refine xN [5] (by decide +kernel) ?_|refine xN [6] (by decide +kernel) ?_|refine xN [7] (by decide +kernel) ?_|refine xN [8] (by decide +kernel) ?_|refine xN [9] (by decide +kernel) ?_|refine xN [1,3] (by decide +kernel) ?_|refine xN [1,4] (by decide +kernel) ?_|refine xN [1,5] (by decide +kernel) ?_|refine xN [1] (by decide +kernel) ?_|refine xN [0] (by decide +kernel) ?_);simp only[List.mem_cons,List.not_mem_nil,or_false,forall_eq_or_imp,forall_eq];(repeat' with_reducible refine And.intro ?_ ?_);all_goals (refine aD rfl ?_;go_wp2;simp only[bA];refine⟨aT (by kernel_rfl),tW ?_⟩;clear k m;intro w m k)));all_goals unfold SN))|((with_reducible refine rT (id:=20) [0,1,2,3,5,6,7] [4] [8] (by kernel_rfl) (by kernel_rfl) ?_);simp only[bV];(repeat (first|(refine aQ (fun K hK=>?_);go_simp;refine hK _ ?_;clear hK K)|(refine cG (by kernel_rfl) ⟨_,_,_,?_,fun w' o=>pCodeR w',?_⟩;(focus (intro w;go_simp;done)))));refine aS ?_;(repeat (refine aJ (fun K hK=>?_);go_simp;refine hK _ ?_;clear hK K));refine aK ?_;clear k m;intro w m k;unfold aV;refine aD rfl ?_;go_wp2;simp only[bA];refine tW ?_;clear k m;intro w m k;unfold aV)|((with_reducible first|refine cU ?_|refine wU ?_);clear k m;intro w m k)|((with_reducible refine lN ?_ ?_ (fun w o g=>?_));(. rfl);(. rfl);exact⟨rfl,Has.h w g,o⟩))
theorem frg9 {t:Int} {g:Fg} {f:Ft} (h:f.k=9):gM t g f={ g with hold:=g.hold+f.v }:=by
 unfold gM;rw[if_neg (by omega)];rw[if_neg (by omega)];rw[if_neg (by omega)];rw[if_neg (by omega)];rw[if_neg (by omega)];rw[if_neg (by omega)];rw[if_neg (by omega)];rw[if_neg (by omega)];rw[if_pos h]
theorem YV {w:World} {bs:Nat} {g:Fg} {f:Ft} {t:Int} (hs:w.heap[bs]? = some (.cells (jJ g).toArray 315 (0,0))) (hk:f.k=9) (hh: -4611686018427387904<=g.hold+f.v/\g.hold+f.v<=4611686018427387904) :
  Calls Tryz.prog 181 #[.pointer (some ⟨bs,0,none⟩),FE f,.int .i64 t] w fun e w'=>e=.returned (.tuple #[])/\w'.heap[bs]? = some (.cells (jJ ({ g with hold:=g.hold+f.v })).toArray 315 (0,0))/\Oy [bs] w w':=by
 obtain⟨f1,f2,f3,f4,f5⟩:=f;obtain⟨gd,⟨q1,q2,q3,q4,q5,q6,q7,q8,q9,qa,qb,qc,qd⟩,⟨x1,x2⟩,gh⟩:=g;dsimp only at hk |-;subst hk;unfold FE;unfold jJ at hs |-;dsimp only at hs |-;have e1:wrap .i64 (gh+f5)=gh+f5:=by rw[IntKind.wrap_i64];dsimp only at hh;omega
 clear hh;have m:=kV hs;have k:=m.zK;clear hs;go_enter Tryz.func181,Tryz.ntmps181
 go_upto_region 1 with (fail)
 refine wU ?_;clear k m;intro w m k;go_wp2_with (first|((with_reducible refine iY (id:=22) [0,1,2,3,4,5,6,7,8] [9] ?_);simp only[bV];(repeat' (first|go_big_quiet_step (fail)|(refine wpQuiet_step (fun K hK=>?_);go_simp;(first|(refine hK _ ?_;clear hK K)|(split<;>(refine hK _ ?_;clear hK K))))));all_goals (refine wpQuiet_nil ?_;clear k m;intro w m k))|((with_reducible first|refine cU ?_|refine wU ?_);clear k m;intro w m k)|((with_reducible refine lN ?_ ?_ (fun w o g=>?_));(. rfl);(. rfl);exact⟨rfl,Has.h w g,o⟩))
section
theorem wB {l:List Ft} (h:tX l=0):l.length<=32/\∀ f∈l,IU f=0:=by
 unfold tX at h;split at h
 ·exact absurd h (by decide)
 ·rename_i h1
  refine⟨by omega,fun f hf=>?_⟩;obtain⟨i,hi,rfl⟩:=List.getElem_of_mem hf;have:=tV.1 h i (Nat.zero_le _) (by omega);rwa [show l.getD i mD=l[i] by rw[List.getD_eq_getElem?_getD,List.getElem?_eq_getElem hi];rfl] at this
theorem ft_ok {f:Ft} (h:IU f=0):(0<=f.n/\f.n<=23)/\(0<=f.f/\f.f<=f.t/\f.t<=1125899906842624)/\(1<=f.k/\f.k<=9)/\(-1125899906842624<=f.v/\f.v<=1125899906842624)/\(f.k=9->0<=f.v):=by
 unfold IU at h;split at h
 ·rename_i h1
  simp only[bI] at h1;split at h
  ·exact absurd h (by decide)
  ·split at h
   ·rename_i h2 h3
    rw[bI] at h3;split at h
    ·rename_i h4
     refine⟨h1.1,⟨h1.2.1.1,by omega,h1.2.2.2⟩,h3,?_⟩;unfold fits at h4;split at h4
     ·rw[bI] at h4;refine⟨h4,fun q=>by omega⟩
     ·split at h4
      ·rw[bI] at h4;refine⟨by omega,fun q=>by omega⟩
      ·split at h4
       ·rw[bI] at h4;refine⟨by omega,fun q=>by omega⟩
       ·split at h4
        ·rw[bI] at h4;refine⟨by omega,fun _=>h4.1⟩
        ·have:=of_decide_eq_true h4;refine⟨by omega,fun q=>by omega⟩
    ·exact absurd h (by decide)
   ·exact absurd h (by decide)
 ·exact absurd h (by decide)
theorem pForge {w:World} {bs:Nat} {g:Fg} {f:Ft} {t:Int} (hs:w.heap[bs]? = some (.cells (jJ g).toArray 315 (0,0))) (t0:0<=t) (t1:t<=1125899906842624) (hf:IU f=0) (hh:0<=g.hold/\g.hold<=1152921504606846976) :
  Calls Tryz.prog 181 #[.pointer (some ⟨bs,0,none⟩),FE f,.int .i64 t] w fun e w'=>e=.returned (.tuple #[])/\w'.heap[bs]? = some (.cells (jJ (gM t g f)).toArray 315 (0,0))/\Oy [bs] w w':=by
 have hk:=ft_ok hf;have hv:=hk.2.2.2.1;have h9:=hk.2.2.2.2;have hk:=hk.2.2.1;by_cases k1:f.k=1
 ·rw[frg1 k1];exact Y4 hs k1
 by_cases k2:f.k=2
 ·rw[show gM t g f=((g.wW (jC g.hd.rcv f.v t)).GL (jC (g.wW (jC g.hd.rcv f.v t)).hd.xmt f.v t)).yV (LC ((g.wW (jC g.hd.rcv f.v t)).GL (jC (g.wW (jC g.hd.rcv f.v t)).hd.xmt f.v t)).iv f.v) from by unfold gM;rw[if_neg k1,if_pos k2]]
  exact pForgeS hs t0 t1 hv.1 hv.2 k2
 by_cases k3:f.k=3
 ·rw[show gM t g f=g.yV (IE g.iv f.v) from by unfold gM;rw[if_neg k1,if_neg k2,if_pos k3]]
  exact pForgeN hs t0 t1 hv.1 hv.2 k3
 by_cases k4:f.k=4
 ·rw[frg4 k4];exact Y3 hs k4
 by_cases k5:f.k=5
 ·rw[frg5 k5];exact Y0 hs k5
 by_cases k6:f.k=6
 ·rw[frg6 k6];exact YZ hs k6
 by_cases k7:f.k=7
 ·rw[frg7 k7];exact YX hs k7
 by_cases k8:f.k=8
 ·rw[frg8 k8];exact YW hs k8
 have k9:f.k=9:=by omega
 have:=h9 k9;rw[frg9 k9];exact YV hs k9 (by omega)
theorem KZ {t:Int} {g:Fg} {f:Ft} (hf:IU f=0) (h:0<=g.hold):0<=(gM t g f).hold/\(gM t g f).hold<=g.hold+1125899906842624:=by
 have hk:=ft_ok hf;have hv:=hk.2.2.2.1;have h9:=hk.2.2.2.2;have s1:∀ (g:Fg) o,(g.wW o).hold=g.hold:=fun g o=>by cases o<;>rfl
 have s2:∀ (g:Fg) o,(g.GL o).hold=g.hold:=fun g o=>by cases o<;>rfl
 have s3:∀ (g:Fg) o,(g.yV o).hold=g.hold:=fun g o=>by cases o<;>rfl
 unfold gM;repeat' split
 all_goals first|(dsimp only;rw[s3,s2,s1];omega)|(rw[s3];omega)|(dsimp only;omega)|(rename_i q;have:=h9 q;dsimp only;omega)|omega
def pK (l:List Ft) (n t:Int) (j:Nat):List Int:=((List.range j).filter (fun i:Nat=>xW n t (l.getD i mD))).map (fun i:Nat=>(i:Int))
theorem L8 {l:List Ft} {n t:Int} {j:Nat} (h:xW n t (l.getD j mD)=true):pK l n t (j+1)=pK l n t j ++ [(j:Int)]:=by
 unfold pK;rw[List.range_succ,List.filter_append,show List.filter (fun i:Nat=>xW n t (l.getD i mD)) [j]=[j] from by simp only[List.filter_cons,h,if_true,List.filter_nil]];simp
theorem SH {l:List Ft} {n t:Int} {j:Nat} (h:xW n t (l.getD j mD)=false):pK l n t (j+1)=pK l n t j:=by
 unfold pK;rw[List.range_succ,List.filter_append,show List.filter (fun i:Nat=>xW n t (l.getD i mD)) [j]=[] from by simp only[List.filter_cons,h,Bool.false_eq_true,if_false,List.filter_nil]];simp
theorem L9 (l:List Ft) (n t:Int) (j:Nat):(pK l n t j).length<=j:=by
 unfold pK;rw[List.length_map];exact Nat.le_trans (List.length_filter_le _ _) (by simp)
theorem pActive {w:World} {p:Option Addr} {m cap:Nat} {l:List Ft} (n t:Int) (hv:aU ftC 5 w p m cap l) (hl:tX l=0) :
  Calls Tryz.prog 180 #[.slice p m cap,.int .i64 n,.int .i64 t] w fun e w'=>∃ v,e=.returned v/\Own fC 3 1 w.heap.size w' v (pK l n t l.length)/\Oy [] w w':=by
 have h32:=(wB hl).1;have HV:=aA hv;have hln:=hv.len;have hcap:=Nat.le_trans hv.le hv.cm;subst hln;have HC:=aA (fun w' (o:Oy [] w w')=>by have:=NG (hv.kept o) (by omega);rw[hl] at this;exact this);clear hv hl;obtain⟨wo,rfl⟩:∃ wo:World,wo=w:=⟨_,rfl⟩;have m:=bJ wo [];have k:=m.zK;go_enter Tryz.func180,Tryz.ntmps180
 go_wp2_with ((with_reducible first|refine cM (HC.out _ gO) ?_|refine cU ?_|refine wU ?_);clear k m;intro w m k)
 have OB:=aA m.zO;clear k m;obtain⟨wl,rfl⟩:∃ wl:World,wl=w:=⟨_,rfl⟩;go_loopw [7,15] (fun vo vi wr=>∃ j:Nat,j<=l.length/\vi=.int .i64 j/\Own fC 3 1 wo.heap.size wr vo (pK l n t j)/\Oy [] wo wr) (fun _ vi _=>l.length-(intOf vi).toNat)
 case atStart=>exact⟨0,Nat.zero_le _,rfl,(by unfold pK;exact bR _ _),OB.out⟩
 case round =>
  obtain⟨j,hj,rfl,hown,ho⟩:=hrel;have OW:=aA hown;have OO:=aA ho;clear hown ho;by_cases hlt:j<l.length
  ·have hlt2:(j:Int)<(l.length:Int):=by omega
   obtain⟨bk,off,rfl,-⟩:=HV.out.ft (aR [] wo) hlt
   have HX:=aA (show ∀ w',Oy [] wr w'->bk<w'.heap.size/\w'.cell? ⟨bk,off+j*5,none⟩=some (.int .i64 (l.getD j mD).n)/\w'.cell? ⟨bk,off+j*5+1,none⟩=some (.int .i64 (l.getD j mD).f)/\w'.cell? ⟨bk,off+j*5+2,none⟩=some (.int .i64 (l.getD j mD).t)/\w'.cell? ⟨bk,off+j*5+3,none⟩=some (.int .i64 (l.getD j mD).k)/\w'.cell? ⟨bk,off+j*5+4,none⟩=some (.int .i64 (l.getD j mD).v) from fun w' o=>by
    obtain⟨b',o',e,c1,c2,c3,c4,c5,c6⟩:=HV.out.ft (OO.out.trans o (by simp)) hlt
    cases e
    exact⟨c6,c1,c2,c3,c4,c5⟩)
   have HY:=aA (fun h=>L8 (l:=l) (n:=n) (t:=t) (j:=j) h);have HN:=aA (fun h=>SH (l:=l) (n:=n) (t:=t) (j:=j) h);have HLN:=aA (L9 l n t j);have HJ:=aA (show j+1<=l.length by omega);have eb:wrap .i64 ((j:Int)+1)=((j+1:Nat):Int):=by rw[IntKind.wrap_i64];omega
   unfold xW at HY HN;generalize l.getD j mD=f at HX HY HN;obtain⟨f1,f2,f3,f4,f5⟩:=f;dsimp only at HX HY HN;generalize pK l n t j=acc at HY HN HLN OW;by_cases q1:f1=n
   ·subst q1
    have b1:(f1 == f1)=true:=by simp
    by_cases q2:f2<=t
    ·have b2:decide (f2<=t)=true:=decide_eq_true q2
     by_cases q3:t<f3
     ·have b3:decide (t<f3)=true:=decide_eq_true q3
      have hy:=HY.out (by simp[q2,q3]);clear HN HY;have HA:=aA hy;clear hy q2 q3;have m:=bJ wr [];have k:=m.zK;have c:=HX.out wr (aR _ _);go_wp2_with (at_builtin;refine aW ?_)
      refine bH ?_;refine bK (w0:=wo) rfl _ _ 52 rfl 3 (.int .i64 0) 1 8 Tryz.underlying52 (by kernel_rfl) rfl (by decide) fC dM nT acc _ rfl (OW.out.kept gO) (wr.heap.size+1) j rfl (fun jj u hj=>?_) (by have:=HLN.out;simp[maxLen];omega) (by have:=HLN.out;omega) (OO.out.trans gO (by simp)) ?_
      ·rw[aC (gB (b:=wr.heap.size+1)),<-hj];simp[fC]
      intro v9 w9 hown9 ho9 _;go_wp2;go_roundw
      case rel=>exact⟨j+1,HJ.out,by go_num,by rw[HA.out];exact hown9,ho9⟩
      case measure=>first|(simp[intOf];done)|(simp[intOf];omega)
     ·have b3:decide (t<f3)=false:=decide_eq_false q3
      have hn:=HN.out (by simp[q3]);have HA:=aA hn;clear hn HY HN;have m:=bJ wr [];have k:=m.zK;have c:=HX.out wr (aR _ _);go_wp2;go_roundw
      case rel=>exact⟨j+1,HJ.out,by go_num,by rw[HA.out];exact OW.out.kept gO,OO.out.trans gO (by simp)⟩
      case measure=>first|(simp[intOf];done)|(simp[intOf];omega)
    ·have b2:decide (f2<=t)=false:=decide_eq_false q2
     have hn:=HN.out (by simp[q2]);have HA:=aA hn;clear hn HY HN;have m:=bJ wr [];have k:=m.zK;have c:=HX.out wr (aR _ _);go_wp2;go_roundw
     case rel=>exact⟨j+1,HJ.out,by go_num,by rw[HA.out];exact OW.out.kept gO,OO.out.trans gO (by simp)⟩
     case measure=>first|(simp[intOf];done)|(simp[intOf];omega)
   ·have b1:(f1 == n)=false:=by simpa using q1
    have hn:=HN.out (by simp[q1]);have HA:=aA hn;clear hn HY HN;have m:=bJ wr [];have k:=m.zK;have c:=HX.out wr (aR _ _);go_wp2;go_roundw
    case rel=>exact⟨j+1,HJ.out,by go_num,by rw[HA.out];exact OW.out.kept gO,OO.out.trans gO (by simp)⟩
    case measure=>first|(simp[intOf];done)|(simp[intOf];omega)
  ·obtain rfl:j=l.length:=by omega
   have hlt2:decide ((l.length:Int)<(l.length:Int))=false:=by simp
   have m:=bJ wr [];have k:=m.zK;go_wp2;go_ret
   exact⟨_,rfl,OW.out,OO.out⟩
end
section
def tC (l:List Ft) (t:Int) (g:Fg) (is:List Int):Fg:=is.foldl (fun g i=>gM t g (l.getD i.toNat mD)) g
theorem FW (l:List Ft) (t:Int) (g:Fg) (is:List Int) (i:Int):tC l t g (is ++ [i])=gM t (tC l t g is) (l.getD i.toNat mD):=by
 unfold tC;rw[List.foldl_append];rfl
theorem actI_mem {l:List Ft} {n t i:Int} {m:Nat} (h:i∈pK l n t m):0<=i/\i<m:=by
 unfold pK at h;obtain⟨j,hj,rfl⟩:=List.mem_map.1 h;have:=List.mem_range.1 (List.mem_filter.1 hj).1;omega
theorem DV (l:List Ft) (n t:Int) (g:Fg):∀ m,m<=l.length->tC l t g (pK l n t m)=((l.take m).filter (xW n t)).foldl (gM t) g
 | 0,_=>by unfold pK tC;simp
 |m+1,h=>by
  have hm:m<l.length:=by omega
  have hg:l.getD m mD=l[m]:=by rw[List.getD_eq_getElem?_getD,List.getElem?_eq_getElem hm];rfl
  rw[List.take_succ_eq_append_getElem hm,List.filter_append]
  cases hb:xW n t (l.getD m mD) with
  | true =>
   rw[L8 hb,FW,DV l n t g m (by omega),Int.toNat_natCast,show List.filter (xW n t) [l[m]]=[l[m]] from by rw[<-hg];simp only[List.filter_cons,hb,if_true,List.filter_nil],List.foldl_append,hg];rfl
  | false =>
   rw[SH hb,DV l n t g m (by omega),show List.filter (xW n t) [l[m]]=[] from by rw[<-hg];simp only[List.filter_cons,hb,Bool.false_eq_true,if_false,List.filter_nil],List.append_nil]
theorem getD_okF {l:List Ft} (h:tX l=0) {i:Nat} (hi:i<l.length):IU (l.getD i mD)=0:=by
 rw[List.getD_eq_getElem?_getD,List.getElem?_eq_getElem hi];exact (wB h).2 _ (List.getElem_mem hi)
theorem nH {Pr:Program} {w0 w:World} {S:List Nat} {L:List gG} {Q:Exit->Act->World->Prop} {ops:Array Oper} {rest:List Oper} {a:Act} [m:Mm w0 S w L] {ty y1:TypeId} {s1:String} {e1:Array Edge} {x:Operand} {tL:Tmp} {b:Nat} {cs:List Value} {t:TypeId} {d:TypeDesc} [h:Has L b cs t]
  (hx:a.eval x=.pointer (some ⟨b,0,none⟩)) (hu:Pr.underlying ty=some d) (hd:d.isRow=true) (hi:(Pr.info? ty).map (·.size)=some cs.length)
  (hk:wpList Pr ops Q rest (a.put (some tL) (.agg cs.toArray)) w):wpList Pr ops Q (⟨some tL,.load ty x,y1,s1,e1,none⟩::rest) a w:=
 wpList_load_mid rfl ty x rfl b 0 hx cs d (fun j v hv=>by rw[Nat.zero_add,aC gB j,List.getElem?_toArray];exact hv) hu hd hi hk
theorem iL {Pr:Program} {w0 w:World} {S:List Nat} {L L':List gG} {Q:Exit->Act->World->Prop} {ops:Array Oper} {rest:List Oper} {a:Act} [m:Mm w0 S w L] {ty y1:TypeId} {s1:String} {e1:Array Edge} {x y:Operand} {b:Nat} {old cs:List Value} [h:Has L b old ty] [s:FY L b cs ty L']
  (hx:a.eval x=.pointer (some ⟨b,0,none⟩)) (hy:a.eval y=.agg cs.toArray) (hi:(Pr.info? ty).map (·.size)=some cs.length) (hl:old.length=cs.length) (h1:cs.all (·.oneCell')=true)
  (hk:∀ w',Mm w0 S w' L'->wpList Pr ops Q rest (a.put none undef) w'):wpList Pr ops Q (⟨none,.store ty x y,y1,s1,e1,none⟩::rest) a w:=by
 refine _root_.Go.wpList_store_row rfl ty x y rfl b cs.toArray hx hy ty old.toArray gB (by rw[hi,List.size_toArray]) (by simpa using hl) (by simpa using h1) ?_;obtain⟨i,vs,h2,rfl⟩:=s.h;exact hk _ ⟨m.out.upd h2 (setRow_heap w b old.toArray cs.toArray ty (0,0) gB) ⟨rfl,rfl,rfl,by simp[World.setRow],fun q _ hq=>setRow_other _ _ q _ (fun e=>hq (by simp[e]))⟩⟩
theorem F3 {Pr:Program} {w0 w:World} {S:List Nat} {L L':List gG} {Q:Exit->Act->World->Prop} {ops:Array Oper} {rest:List Oper} {a:Act} [m:Mm w0 S w L] {ty y1 y2:TypeId} {s1 s2:String} {e1 e2:Array Edge} {x y z:Operand} {tL:Tmp} {b c:Nat} {old cs:List Value} {t:TypeId} {d:TypeDesc} [h:Has L b cs t] [h':Has L c old ty] [s:FY L c cs ty L']
  (hx:a.eval x=.pointer (some ⟨b,0,none⟩)) (hu:Pr.underlying ty=some d) (hd:d.isRow=true) (hi:(Pr.info? ty).map (·.size)=some cs.length)
  (hy:(a.put (some tL) (.agg cs.toArray)).eval y=.pointer (some ⟨c,0,none⟩)) (hz:(a.put (some tL) (.agg cs.toArray)).eval z=.agg cs.toArray) (hl:old.length=cs.length) (h1:cs.all (·.oneCell')=true)
  (hk:∀ w',Mm w0 S w' L'->wpList Pr ops Q rest ((a.put (some tL) (.agg cs.toArray)).put none undef) w'):wpList Pr ops Q (⟨some tL,.load ty x,y1,s1,e1,none⟩::⟨none,.store ty y z,y2,s2,e2,none⟩::rest) a w:=
 nH hx hu hd hi (iL hy hz hi hl h1 hk)
theorem ret_row {Pr:Program} {fn:Func} {tmps:Array Value} {w:World} {i:Tmp} {t t':TypeId} {b:Nat} {cs:List Value} {d:TypeDesc} (hr:fn.results=#[.cell i t]) (ht:tmps.getD i undef=.pointer (some ⟨b,0,none⟩)) (hg:w.heap[b]? = some (.cells cs.toArray t' (0,0)))
  (hu:Pr.underlying t=some d) (hd:d.isRow=true) (hi:(Pr.info? t).map (·.size)=some cs.length):(results fn tmps).run Pr w=.ok (.agg cs.toArray) w:=by
 have h:=run_loadVar_mid w b 0 t cs d (fun j v hv=>by rw[Nat.zero_add,aC hg j,List.getElem?_toArray];exact hv) hu hd hi;have ht':tmps[i]?.getD undef=.pointer (some ⟨b,0,none⟩):=by rw[<-ht];simp
 simp[results,hr,ht',asAddr,h]
def fgV (g:Fg):Value:=.agg (jJ g).toArray
theorem pApply {w:World} {p:Option Addr} {m cap:Nat} {l:List Ft} (n t:Int) (q:Np) (x:Iv) (hv:aU ftC 5 w p m cap l) (hl:tX l=0) (t0:0<=t) (t1:t<=1125899906842624) :
  Calls Tryz.prog 173 #[.slice p m cap,.int .i64 n,.int .i64 t,iR q,dV x] w fun e w'=>e=.returned (fgV (mG l n t q x))/\Oy [] w w':=by
 have h32:=(wB hl).1;have HV:=aA hv;have hln:=hv.len;have hcap:=Nat.le_trans hv.le hv.cm;subst hln;have HA:=aA (fun w' (o:Oy [] w w')=>pActive n t (hv.kept o) hl);have HL:=aA hl;have HE:Hid (tC l t ⟨false,q,x,0⟩ (pK l n t l.length)=mG l n t q x):=aA (by rw[DV l n t _ _ (Nat.le_refl _),List.take_length];rfl);have HI:=aA (fun i (h:i∈pK l n t l.length)=>actI_mem h);have HIL:=aA (L9 l n t l.length);generalize pK l n t l.length=is at HA HE HI HIL;rw[<-HE.out];obtain⟨q1,q2,q3,q4,q5,q6,q7,q8,q9,qa,qb,qc,qd⟩:=q;obtain⟨x1,x2⟩:=x;unfold iR dV;dsimp only;obtain⟨g0,hg0⟩:∃ g:Fg,(⟨false,⟨q1,q2,q3,q4,q5,q6,q7,q8,q9,qa,qb,qc,qd⟩,⟨x1,x2⟩,0⟩:Fg)=g:=⟨_,rfl⟩;have HC0:Hid (jJ g0=[.bool false,.int .i64 q1,.int .i64 q2,.int .i64 q3,.int .i64 q4,.int .i64 q5,.int .i64 q6,.int .u32 q7,.int .u32 q8,.int .u32 q9,.int .u64 qa,.int .u64 qb,.int .u64 qc,.int .u64 qd,.int .i64 x1,.int .i64 x2,.int .i64 0]):=aA (by rw[<-hg0];rfl);have hh0:g0.hold=0:=by rw[<-hg0]
 rw[hg0];clear hg0 HE hv hl;obtain⟨wo,rfl⟩:∃ wo:World,wo=w:=⟨_,rfl⟩;have m:=bJ wo [];have k:=m.zK;go_enter Tryz.func173,Tryz.ntmps173
 go_wp2_with ((with_reducible first|refine cU ?_|refine wU ?_);clear k m;intro w m k)
 have hbr:=gB (w:=w) (b:=wo.heap.size+1+1);have hbs:=gB (w:=w) (b:=wo.heap.size+1+1+1);have OB:=aA m.zO;have nrs:wo.heap.size+1+1≠wo.heap.size+1+1+1:=by omega
 have grb:wo.heap.size<=wo.heap.size+1+1:=by omega
 have gsb:wo.heap.size<=wo.heap.size+1+1+1:=by omega
 generalize wo.heap.size+1+1+1=bs at hbs nrs gsb |-;generalize wo.heap.size+1+1=br at hbr nrs grb |-;have HBR:=aA hbr;have hbs':w.heap[bs]? = some (.cells (jJ g0).toArray 315 (0,0)):=by rw[HC0.out];exact hbs
 have HBS:=aA hbs';clear k m hbr hbs hbs' HC0;refine (HA.out w OB.out).mono ?_;rintro e w2 ⟨v,rfl,hown,ho⟩;have hge:=hown.wH;obtain⟨pi,ci,rfl,hvi⟩:=hown.dI dM;have hbsw:=aF HBS.out;replace OB:=aA (OB.out.aB ho);replace HBR:=aA (ho.got HBR.out (by simp));replace HBS:=aA (ho.got HBS.out (by simp));have HVI:=aA hvi;have hcapi:=Nat.le_trans hvi.le hvi.cm
 have HGE:=aA (show ∀ b off,pi=some ⟨b,off,none⟩->b≠bs from fun b off q=>by
  subst q;have:=hge b (by simp[Value.ownBlock]);omega)
 clear hown hvi ho HA hge hbsw;obtain⟨wl,rfl⟩:∃ wl:World,wl=w2:=⟨_,rfl⟩;go_wp2_with fail
 go_loopw [22] (fun vi wr=>∃ j:Nat,j<=is.length/\vi=.int .i64 j/\wr.heap[bs]? = some (.cells (jJ (tC l t g0 (is.take j))).toArray 315 (0,0))/\(0<=(tC l t g0 (is.take j)).hold/\(tC l t g0 (is.take j)).hold<=(j:Int)*1125899906842624)/\Oy [bs] wl wr) (fun vi _=>is.length-(intOf vi).toNat)
 case atStart=>exact⟨0,Nat.zero_le _,rfl,HBS.out,by rw[List.take_zero];show 0<=g0.hold/\g0.hold<=_;rw[hh0];simp,aR _ _⟩
 case round =>
  obtain⟨j,hj,rfl,hb,hhold,ho⟩:=hrel;have HH:=aA hhold;have OO:=aA ho;have HB:=aA hb;have WW:=aA (OB.out.trans ho (fun q hq=>.inr (by rw[List.mem_singleton.1 hq];exact gsb)));clear hhold ho hb;have his:=HIL.out;by_cases hlt:j<is.length
  ·have hlt2:(j:Int)<(is.length:Int):=by omega
   have hmem:=HI.out is[j] (List.getElem_mem hlt);obtain⟨i,hi⟩:∃ i:Nat,is[j]=(i:Int):=⟨is[j].toNat,by omega⟩;have hil:i<l.length:=by omega
   have hil2:(i:Int)<(l.length:Int):=by omega
   have HSN:=aA (show tC l t g0 (is.take (j+1))=gM t (tC l t g0 (is.take j)) (l.getD i mD) by
    rw[List.take_succ_eq_append_getElem hlt,FW,hi,Int.toNat_natCast])
   obtain⟨bi,oi,rfl,-⟩:=HVI.out.cell j is[j] (List.getElem?_eq_getElem hlt);obtain⟨bk,off,rfl,-⟩:=HV.out.ft (aR [] wo) hil;have hbi:bi≠bs:=HGE.out bi oi rfl
   have HX:=aA (show ∀ w',Oy [bs] wr w'->(bi<w'.heap.size/\w'.cell? ⟨bi,oi+j,none⟩=some (.int .i64 (i:Int)))/\bk<w'.heap.size/\w'.cell? ⟨bk,off+i*5,none⟩=some (.int .i64 (l.getD i mD).n)/\w'.cell? ⟨bk,off+i*5+1,none⟩=some (.int .i64 (l.getD i mD).f)/\w'.cell? ⟨bk,off+i*5+2,none⟩=some (.int .i64 (l.getD i mD).t)/\w'.cell? ⟨bk,off+i*5+3,none⟩=some (.int .i64 (l.getD i mD).k)/\w'.cell? ⟨bk,off+i*5+4,none⟩=some (.int .i64 (l.getD i mD).v) from fun w' o=>by
    obtain⟨b',o',e,c1,c2,c3,c4,c5,c6⟩:=HV.out.ft (WW.out.trans o (fun q hq=>.inr (by rw[List.mem_singleton.1 hq];exact gsb))) hil
    cases e
    obtain⟨b2,o2,e2,d1,d2⟩:=HVI.out.cell j is[j] (List.getElem?_eq_getElem hlt)
    cases e2
    have o3:=OO.out.trans o (fun q hq=>.inl hq);have d3:=d2 0 _ rfl;rw[hi,Nat.mul_one,Nat.add_zero] at d3;exact⟨⟨Nat.lt_of_lt_of_le d1 o3.size,(o3.cell d1 (by simpa using hbi)).trans d3⟩,c6,c1,c2,c3,c4,c5⟩)
   have hfo:=getD_okF HL.out hil;have HFG:=aA (fun w' hs=>pForge (w:=w') (bs:=bs) (g:=tC l t g0 (is.take j)) (f:=l.getD i mD) (t:=t) hs t0 t1 hfo (by have:=HH.out;omega));have HFH:=aA (KZ (t:=t) (g:=tC l t g0 (is.take j)) hfo HH.out.1);have HHB:=aA (show (gM t (tC l t g0 (is.take j)) (l.getD i mD)).hold<=((j+1:Nat):Int)*1125899906842624 by have:=HH.out;have:=HFH.out;omega);have HHA:=aA HFH.out.1;have HJ:=aA (show j+1<=is.length by omega);have eb:wrap .i64 ((j:Int)+1)=((j+1:Nat):Int):=by rw[IntKind.wrap_i64];omega
   clear hfo HFH hmem hi;generalize l.getD i mD=f at HX HFG HSN HHB HHA;obtain⟨f1,f2,f3,f4,f5⟩:=f;unfold FE at HFG;dsimp only at HX HFG;generalize tC l t g0 (is.take j)=gg at HB HFG HSN HHB HHA HH;generalize gM t gg ⟨f1,f2,f3,f4,f5⟩=g2 at HFG HSN HHB HHA;have m:=kV HB.out;have k:=m.zK;have c:=HX.out wr (aR _ _);go_wp2_with (first|((with_reducible first|refine cP (HFG.out _ gB) ?_|refine cU ?_|refine wU ?_);clear k m c;intro w m k;have c:=HX.out w m.zO)|(go_roundw;(case rel=>exact⟨j+1,HJ.out,by go_num,by rw[HSN.out];exact gB,by rw[HSN.out];exact⟨HHA.out,HHB.out⟩,OO.out.trans gO (fun q hq=>.inl hq)⟩);(case measure=>first|(simp[intOf];done)|(simp[intOf];omega))))
  ·obtain rfl:j=is.length:=by omega
   have hlt2:decide ((is.length:Int)<(is.length:Int))=false:=by simp
   have hb:=HB.out;rw[List.take_length] at hb;have HBR2:=aA (OO.out.got HBR.out (by simpa using nrs));have HWW:=WW;obtain⟨gg,hgg⟩:∃ g,tC l t g0 is=g:=⟨_,rfl⟩;rw[hgg] at hb;have HGG:=aA hgg;clear hgg;have m:Mm wr [br] wr _:=⟨((Mem.start wr [br]).ext false hb (by simp) (by simp)).ext true HBR2.out (by simpa using nrs) (by simp)⟩;have k:True:=trivial;clear hb;go_wp2_with (first|((with_reducible refine F3 (ty:=315) (b:=bs) (c:=br) (cs:=jJ gg) ?_ Tryz.underlying315 ?_ ?_ ?_ ?_ ?_ ?_ ?_);(. simp[Act.eval]);(. rfl);(. kernel_rfl);(. simp[Act.eval,Act.put]);(. simp[Act.eval,Act.put]);(. rfl);(. rfl);(clear k m;intro w m;have k:True:=trivial))|((with_reducible refine wU ?_);clear k m;intro w m k))
   refine lE (fun w o g _ K hK=>⟨rfl,_,ret_row (b:=br) (cs:=jJ gg) (t':=315) Tryz.results173 ?_ ?_ Tryz.underlying315 ?_ ?_,hK _ ?_⟩)
   ·rfl
   ·exact g.1
   ·rfl
   ·kernel_rfl
   ·exact⟨by rw[HGG.out];rfl,HWW.out.trans o (fun q hq=>.inr (by rw[List.mem_singleton.1 hq];exact grb))⟩
end
end Go.Proofs.YtppjhbjmfkiejaaGreat
