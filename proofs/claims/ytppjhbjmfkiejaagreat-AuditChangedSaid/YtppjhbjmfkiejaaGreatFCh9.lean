/- Ch9 Cha -/
import Derived.Test.YtppjhbjmfkiejaaGreatFChx
import Derived.Test.YtppjhbjmfkiejaaGreatFOg
namespace Go.Proofs.YtppjhbjmfkiejaaGreat
set_option linter.all false
set_option maxRecDepth 100000
set_option maxHeartbeats 8000000
open Go.RowKit Go.Sort
theorem rowM {w:World} {g cap:Nat} {l:List iD} (h:aO kC 41 9 w g cap l) {i:Nat} {x:iD} (hi:l[i]? = some x):∀ w',Oy [] w w'->g<w'.heap.size/\w'.cell? ⟨g,i*9,none⟩=some (.int .i64 x.at_)/\w'.cell? ⟨g,i*9+1,none⟩=some (.int .i64 x.nd)/\w'.cell? ⟨g,i*9+2,none⟩=some (.int .i64 x.raw)/\w'.cell? ⟨g,i*9+3,none⟩=some (.int .i64 x.clk)/\w'.cell? ⟨g,i*9+4,none⟩=some (.int .i64 x.stp)/\w'.cell? ⟨g,i*9+5,none⟩=some (.int .i64 x.lo)/\w'.cell? ⟨g,i*9+6,none⟩=some (.int .i64 x.hi)/\w'.cell? ⟨g,i*9+7,none⟩=some (.int .i64 x.kd)/\w'.cell? ⟨g,i*9+8,none⟩=some (.int .i64 x.vl):=fun w' o=>by
 have h':=h.kept o (by simp);exact⟨h'.lt,(h'.cell bO (j:=0) hi (by decide)),(h'.cell bO (j:=1) hi (by decide)),(h'.cell bO (j:=2) hi (by decide)),(h'.cell bO (j:=3) hi (by decide)),(h'.cell bO (j:=4) hi (by decide)),(h'.cell bO (j:=5) hi (by decide)),(h'.cell bO (j:=6) hi (by decide)),(h'.cell bO (j:=7) hi (by decide)),(h'.cell bO (j:=8) hi (by decide))⟩
theorem rowMs {w:World} {g cap:Nat} {l:List iD} {i:Nat} {y:iD} (h:aO kC 41 9 w g cap (l.set i y)) (hlt:i<l.length):∀ w',Oy [] w w'->g<w'.heap.size/\w'.cell? ⟨g,i*9,none⟩=some (.int .i64 y.at_)/\w'.cell? ⟨g,i*9+1,none⟩=some (.int .i64 y.nd)/\w'.cell? ⟨g,i*9+2,none⟩=some (.int .i64 y.raw)/\w'.cell? ⟨g,i*9+3,none⟩=some (.int .i64 y.clk)/\w'.cell? ⟨g,i*9+4,none⟩=some (.int .i64 y.stp)/\w'.cell? ⟨g,i*9+5,none⟩=some (.int .i64 y.lo)/\w'.cell? ⟨g,i*9+6,none⟩=some (.int .i64 y.hi)/\w'.cell? ⟨g,i*9+7,none⟩=some (.int .i64 y.kd)/\w'.cell? ⟨g,i*9+8,none⟩=some (.int .i64 y.vl):=
 rowM h (List.getElem?_set_self hlt)
theorem aO.own {w w':World} {B g cap:Nat} {l:List iD} {i:Nat} {y:iD} (h:aO kC 41 9 w g cap (l.set i y)) (hB:B<=g) (o:Oy [] w w'):Own kC 41 9 B w' (.slice (some ⟨g,0,none⟩) l.length cap) (l.set i y):=by
 have h2:Own kC 41 9 B w' (.slice (some ⟨g,0,none⟩) (l.set i y).length cap) (l.set i y):=.inr ⟨g,cap,rfl,hB,h.kept o (by simp)⟩;rwa [List.length_set] at h2
theorem oL {l:List iD} {i:Nat} {x y:iD} (hlt:i<l.length) (hx:l[i]=x) (h:y≠x):l.set i y≠l:=fun e=>by
 have h1:(l.set i y)[i]? = l[i]? :=by rw[e]
 rw[List.getElem?_set_self hlt,List.getElem?_eq_getElem hlt,hx] at h1;exact h (Option.some.inj h1)
theorem abs_row {G:World->Prop} {w W:World} {g cap:Nat} {l:List iD} (hr:aO kC 41 9 W g cap l) (ho:Oy [g] w W) (h:∀ W',aO kC 41 9 W' g cap l->Oy [g] w W'->G W'):G W:=h W hr ho
theorem ZA {w:World} {l:List iD} {p:Option Addr} {cp:Nat} (ha:aU kC 9 w p l.length cp l) (hl:l.length<=1000000000) (ix fd v:Int) :
  Calls Tryz.prog 16 #[.slice p l.length cp,.agg #[.int .i64 ix,.int .i64 fd,.int .i64 v]] w fun e w'=>∃ r m b,e=.returned (.tuple #[r,.bool b])/\Own kC 41 9 w.heap.size w' r m/\(b=true->m≠l)/\Oy [] w w':=by
 have HA:=aA ha;clear ha;obtain⟨wo,rfl⟩:∃ wo:World,wo=w:=⟨_,rfl⟩;by_cases h0:ix<0
 ·have d0:decide (ix<0)=true:=eY h0
  have m:=bJ wo [];have k:=m.zK;go_enter Tryz.func16,Tryz.ntmps16
  go_wp2_with (first|((with_reducible first|refine cU ?_|refine wU ?_);clear k m;intro w m k)|((with_reducible refine lE (fun w o g k K hK=>⟨rfl,?_⟩));simp[results,Tryz.results16,go_sem];refine hK _ ?_;exact⟨_,[],_,rfl,bR _ _,nofun,o⟩))
 have d0:decide (ix<0)=false:=dL h0;by_cases h1:(l.length:Int)<=ix
 ·have d1:decide ((l.length:Int)<=ix)=true:=eY h1
  have m:=bJ wo [];have k:=m.zK;go_enter Tryz.func16,Tryz.ntmps16
  go_wp2_with (first|((with_reducible first|refine cU ?_|refine wU ?_);clear k m;intro w m k)|((with_reducible refine lE (fun w o g k K hK=>⟨rfl,?_⟩));simp[results,Tryz.results16,go_sem];refine hK _ ?_;exact⟨_,[],_,rfl,bR _ _,nofun,o⟩))
 have d1:decide ((l.length:Int)<=ix)=false:=dL h1;obtain⟨i,rfl⟩:∃ i:Nat,ix=i:=⟨ix.toNat,by omega⟩;have hlt:i<l.length:=by omega
 have hlt3:(i:Int)<(l.length:Int):=by omega
 clear h0 h1;have m:=bJ wo [];have k:=m.zK;go_enter Tryz.func16,Tryz.ntmps16
 go_upto_region 3 with (fail)
 refine wU ?_;clear k m;intro w m k;go_wp2_with (at_builtin;refine aW ?_)
 refine aG (G:=fun w0=>Stop (wpList _ _ _ _ _ w0)) ?_;intro w2 hb2 ho2 hs2;have hge2:wo.heap.size<=w.heap.size:=m.zO.size;have hlt2:=aF (gB (w:=w) (b:=wo.heap.size));replace m:Mm wo [] w2 _:=⟨m.out.call ho2⟩;have OA:=aA m.zO;refine bH ?_;refine kY (B:=w.heap.size) rfl _ _ 34 rfl 41 (.agg #[.int .i64 0,.int .i64 0,.int .i64 0,.int .i64 0,.int .i64 0,.int .i64 0,.int .i64 0,.int .i64 0,.int .i64 0]) 9 72 Tryz.underlying34 (by kernel_rfl) rfl (by decide) kC bO II [] (.slice (some ⟨w.heap.size,0,none⟩) 0 0) rfl (UE hb2 (Nat.le_refl _)) p l.length cp l rfl (HA.out.kept m.zO) (by simp[maxLen];omega) (by simp;omega) ho2.size ?_;intro v3 w3 hown3 hk3 ho3;rw[List.nil_append] at hown3;rcases hown3 with ⟨-,h⟩|⟨g,cap,rfl,hB,hrow⟩
 ·subst h;exact absurd hlt (by simp)
 have HR:=aA (show aO kC 41 9 w3 g cap l from hrow);have HGE:=aA (show wo.heap.size<g by omega);have HGB:=aA (show wo.heap.size<=g by omega);have HOW:=aA (OA.out.trans ho3 (fun q hq=>.inr (by simp[Value.ownBlock] at hq;omega)));have hb3:=ho3.got (gB (w:=w2) (b:=wo.heap.size)) (by simp[Value.ownBlock];omega);obtain⟨bk,off,hpp,-⟩:=HA.out.VQ (aR [] wo) hlt;obtain⟨⟨x0,x1,x2,x3,x4,x5,x6,x7,x8⟩,hx⟩:∃ x,l[i]=x:=⟨_,rfl⟩;have HLX:=aA hx
 have HLC:=aA (show ∀ w',Oy [] wo w'->bk<w'.heap.size/\w'.cell? ⟨bk,off+i*9,none⟩=some (.int .i64 x0)/\w'.cell? ⟨bk,off+i*9+1,none⟩=some (.int .i64 x1)/\w'.cell? ⟨bk,off+i*9+2,none⟩=some (.int .i64 x2)/\w'.cell? ⟨bk,off+i*9+3,none⟩=some (.int .i64 x3)/\w'.cell? ⟨bk,off+i*9+4,none⟩=some (.int .i64 x4)/\w'.cell? ⟨bk,off+i*9+5,none⟩=some (.int .i64 x5)/\w'.cell? ⟨bk,off+i*9+6,none⟩=some (.int .i64 x6)/\w'.cell? ⟨bk,off+i*9+7,none⟩=some (.int .i64 x7)/\w'.cell? ⟨bk,off+i*9+8,none⟩=some (.int .i64 x8) from fun w' o=>by
  obtain⟨b',o',e,z⟩:=HA.out.VQ o hlt;rw[hpp] at e
  cases e
  rw[hx] at z;exact z)
 have HX:=aA (show ∀ w',Oy [] w3 w'->(bk<w'.heap.size/\w'.cell? ⟨bk,off+i*9,none⟩=some (.int .i64 x0)/\w'.cell? ⟨bk,off+i*9+1,none⟩=some (.int .i64 x1)/\w'.cell? ⟨bk,off+i*9+2,none⟩=some (.int .i64 x2)/\w'.cell? ⟨bk,off+i*9+3,none⟩=some (.int .i64 x3)/\w'.cell? ⟨bk,off+i*9+4,none⟩=some (.int .i64 x4)/\w'.cell? ⟨bk,off+i*9+5,none⟩=some (.int .i64 x5)/\w'.cell? ⟨bk,off+i*9+6,none⟩=some (.int .i64 x6)/\w'.cell? ⟨bk,off+i*9+7,none⟩=some (.int .i64 x7)/\w'.cell? ⟨bk,off+i*9+8,none⟩=some (.int .i64 x8))/\(g<w'.heap.size/\w'.cell? ⟨g,i*9,none⟩=some (.int .i64 x0)/\w'.cell? ⟨g,i*9+1,none⟩=some (.int .i64 x1)/\w'.cell? ⟨g,i*9+2,none⟩=some (.int .i64 x2)/\w'.cell? ⟨g,i*9+3,none⟩=some (.int .i64 x3)/\w'.cell? ⟨g,i*9+4,none⟩=some (.int .i64 x4)/\w'.cell? ⟨g,i*9+5,none⟩=some (.int .i64 x5)/\w'.cell? ⟨g,i*9+6,none⟩=some (.int .i64 x6)/\w'.cell? ⟨g,i*9+7,none⟩=some (.int .i64 x7)/\w'.cell? ⟨g,i*9+8,none⟩=some (.int .i64 x8))/\w'.frozen? ⟨g,i*9,none⟩=false/\w'.frozen? ⟨g,i*9+1,none⟩=false/\w'.frozen? ⟨g,i*9+2,none⟩=false/\w'.frozen? ⟨g,i*9+3,none⟩=false/\w'.frozen? ⟨g,i*9+4,none⟩=false/\w'.frozen? ⟨g,i*9+5,none⟩=false/\w'.frozen? ⟨g,i*9+6,none⟩=false/\w'.frozen? ⟨g,i*9+7,none⟩=false/\w'.frozen? ⟨g,i*9+8,none⟩=false from fun w' o=>⟨HLC.out w' (HOW.out.aB o),rowM HR.out (i:=i) (x:=(⟨x0,x1,x2,x3,x4,x5,x6,x7,x8⟩:iD)) (by rw[List.getElem?_eq_getElem hlt,hx]) w' o,(HR.out.kept o (by simp)).frozen _,(HR.out.kept o (by simp)).frozen _,(HR.out.kept o (by simp)).frozen _,(HR.out.kept o (by simp)).frozen _,(HR.out.kept o (by simp)).frozen _,(HR.out.kept o (by simp)).frozen _,(HR.out.kept o (by simp)).frozen _,(HR.out.kept o (by simp)).frozen _,(HR.out.kept o (by simp)).frozen _⟩);rw[hpp];clear m k hb2 ho2 hs2 hge2 hlt2 hk3 ho3 hrow hB hx hpp OA;have HB3:=aA hb3;clear hb3;by_cases e0:fd=0
 focus
  subst e0;have HR2:Hid (aO kC 41 9 (w3.setCell ⟨g,i*9,none⟩ (.int .i64 v)) g cap (l.set i (⟨v,x1,x2,x3,x4,x5,x6,x7,x8⟩:iD))):=aA (aO.D8 bO HR.out (i:=i) (j:=0) hlt (by decide) (v:=.int .i64 v) (by rw[HLX.out];rfl));have O2:Hid (Oy [g] w3 (w3.setCell ⟨g,i*9,none⟩ (.int .i64 v))):=aA ((aR [g] w3).setCell (.inl (by simp)) _);by_cases hv:v=x0
  focus
   have HNE:=aA trivial;have HVV:=aA hv;clear hv
  rotate_left
  focus
   have HNE:=aA (oL hlt HLX.out (show (⟨v,x1,x2,x3,x4,x5,x6,x7,x8⟩:iD)≠_ from fun h=>hv (by simpa using h)));have HVV:=aA hv;clear hv
 iterate 2 rotate_left
 have d0:(fd == 0)=false:=by simpa using e0
 by_cases e1:fd=1
 focus
  subst e1;have HR2:Hid (aO kC 41 9 (w3.setCell ⟨g,i*9+1,none⟩ (.int .i64 v)) g cap (l.set i (⟨x0,v,x2,x3,x4,x5,x6,x7,x8⟩:iD))):=aA (aO.D8 bO HR.out (i:=i) (j:=1) hlt (by decide) (v:=.int .i64 v) (by rw[HLX.out];rfl));have O2:Hid (Oy [g] w3 (w3.setCell ⟨g,i*9+1,none⟩ (.int .i64 v))):=aA ((aR [g] w3).setCell (.inl (by simp)) _);by_cases hv:v=x1
  focus
   have HNE:=aA trivial;have HVV:=aA hv;clear hv
  rotate_left
  focus
   have HNE:=aA (oL hlt HLX.out (show (⟨x0,v,x2,x3,x4,x5,x6,x7,x8⟩:iD)≠_ from fun h=>hv (by simpa using h)));have HVV:=aA hv;clear hv
 iterate 2 rotate_left
 have d1:(fd == 1)=false:=by simpa using e1
 by_cases e2:fd=2
 focus
  subst e2;have HR2:Hid (aO kC 41 9 (w3.setCell ⟨g,i*9+2,none⟩ (.int .i64 v)) g cap (l.set i (⟨x0,x1,v,x3,x4,x5,x6,x7,x8⟩:iD))):=aA (aO.D8 bO HR.out (i:=i) (j:=2) hlt (by decide) (v:=.int .i64 v) (by rw[HLX.out];rfl));have O2:Hid (Oy [g] w3 (w3.setCell ⟨g,i*9+2,none⟩ (.int .i64 v))):=aA ((aR [g] w3).setCell (.inl (by simp)) _);by_cases hv:v=x2
  focus
   have HNE:=aA trivial;have HVV:=aA hv;clear hv
  rotate_left
  focus
   have HNE:=aA (oL hlt HLX.out (show (⟨x0,x1,v,x3,x4,x5,x6,x7,x8⟩:iD)≠_ from fun h=>hv (by simpa using h)));have HVV:=aA hv;clear hv
 iterate 2 rotate_left
 have d2:(fd == 2)=false:=by simpa using e2
 by_cases e3:fd=3
 focus
  subst e3;have HR2:Hid (aO kC 41 9 (w3.setCell ⟨g,i*9+3,none⟩ (.int .i64 v)) g cap (l.set i (⟨x0,x1,x2,v,x4,x5,x6,x7,x8⟩:iD))):=aA (aO.D8 bO HR.out (i:=i) (j:=3) hlt (by decide) (v:=.int .i64 v) (by rw[HLX.out];rfl));have O2:Hid (Oy [g] w3 (w3.setCell ⟨g,i*9+3,none⟩ (.int .i64 v))):=aA ((aR [g] w3).setCell (.inl (by simp)) _);by_cases hv:v=x3
  focus
   have HNE:=aA trivial;have HVV:=aA hv;clear hv
  rotate_left
  focus
   have HNE:=aA (oL hlt HLX.out (show (⟨x0,x1,x2,v,x4,x5,x6,x7,x8⟩:iD)≠_ from fun h=>hv (by simpa using h)));have HVV:=aA hv;clear hv
 iterate 2 rotate_left
 have d3:(fd == 3)=false:=by simpa using e3
 by_cases e4:fd=4
 focus
  subst e4;have HR2:Hid (aO kC 41 9 (w3.setCell ⟨g,i*9+4,none⟩ (.int .i64 v)) g cap (l.set i (⟨x0,x1,x2,x3,v,x5,x6,x7,x8⟩:iD))):=aA (aO.D8 bO HR.out (i:=i) (j:=4) hlt (by decide) (v:=.int .i64 v) (by rw[HLX.out];rfl));have O2:Hid (Oy [g] w3 (w3.setCell ⟨g,i*9+4,none⟩ (.int .i64 v))):=aA ((aR [g] w3).setCell (.inl (by simp)) _);by_cases hv:v=x4
  focus
   have HNE:=aA trivial;have HVV:=aA hv;clear hv
  rotate_left
  focus
   have HNE:=aA (oL hlt HLX.out (show (⟨x0,x1,x2,x3,v,x5,x6,x7,x8⟩:iD)≠_ from fun h=>hv (by simpa using h)));have HVV:=aA hv;clear hv
 iterate 2 rotate_left
 have d4:(fd == 4)=false:=by simpa using e4
 by_cases e5:fd=5
 focus
  subst e5;have HR2:Hid (aO kC 41 9 (w3.setCell ⟨g,i*9+5,none⟩ (.int .i64 v)) g cap (l.set i (⟨x0,x1,x2,x3,x4,v,x6,x7,x8⟩:iD))):=aA (aO.D8 bO HR.out (i:=i) (j:=5) hlt (by decide) (v:=.int .i64 v) (by rw[HLX.out];rfl));have O2:Hid (Oy [g] w3 (w3.setCell ⟨g,i*9+5,none⟩ (.int .i64 v))):=aA ((aR [g] w3).setCell (.inl (by simp)) _);by_cases hv:v=x5
  focus
   have HNE:=aA trivial;have HVV:=aA hv;clear hv
  rotate_left
  focus
   have HNE:=aA (oL hlt HLX.out (show (⟨x0,x1,x2,x3,x4,v,x6,x7,x8⟩:iD)≠_ from fun h=>hv (by simpa using h)));have HVV:=aA hv;clear hv
 iterate 2 rotate_left
 have d5:(fd == 5)=false:=by simpa using e5
 by_cases e6:fd=6
 focus
  subst e6;have HR2:Hid (aO kC 41 9 (w3.setCell ⟨g,i*9+6,none⟩ (.int .i64 v)) g cap (l.set i (⟨x0,x1,x2,x3,x4,x5,v,x7,x8⟩:iD))):=aA (aO.D8 bO HR.out (i:=i) (j:=6) hlt (by decide) (v:=.int .i64 v) (by rw[HLX.out];rfl));have O2:Hid (Oy [g] w3 (w3.setCell ⟨g,i*9+6,none⟩ (.int .i64 v))):=aA ((aR [g] w3).setCell (.inl (by simp)) _);by_cases hv:v=x6
  focus
   have HNE:=aA trivial;have HVV:=aA hv;clear hv
  rotate_left
  focus
   have HNE:=aA (oL hlt HLX.out (show (⟨x0,x1,x2,x3,x4,x5,v,x7,x8⟩:iD)≠_ from fun h=>hv (by simpa using h)));have HVV:=aA hv;clear hv
 iterate 2 rotate_left
 have d6:(fd == 6)=false:=by simpa using e6
 by_cases e7:fd=7
 focus
  subst e7;have HR2:Hid (aO kC 41 9 (w3.setCell ⟨g,i*9+7,none⟩ (.int .i64 v)) g cap (l.set i (⟨x0,x1,x2,x3,x4,x5,x6,v,x8⟩:iD))):=aA (aO.D8 bO HR.out (i:=i) (j:=7) hlt (by decide) (v:=.int .i64 v) (by rw[HLX.out];rfl));have O2:Hid (Oy [g] w3 (w3.setCell ⟨g,i*9+7,none⟩ (.int .i64 v))):=aA ((aR [g] w3).setCell (.inl (by simp)) _);by_cases hv:v=x7
  focus
   have HNE:=aA trivial;have HVV:=aA hv;clear hv
  rotate_left
  focus
   have HNE:=aA (oL hlt HLX.out (show (⟨x0,x1,x2,x3,x4,x5,x6,v,x8⟩:iD)≠_ from fun h=>hv (by simpa using h)));have HVV:=aA hv;clear hv
 iterate 2 rotate_left
 have d7:(fd == 7)=false:=by simpa using e7
 have HR2:Hid (aO kC 41 9 (w3.setCell ⟨g,i*9+8,none⟩ (.int .i64 v)) g cap (l.set i (⟨x0,x1,x2,x3,x4,x5,x6,x7,v⟩:iD))):=aA (aO.D8 bO HR.out (i:=i) (j:=8) hlt (by decide) (v:=.int .i64 v) (by rw[HLX.out];rfl));have O2:Hid (Oy [g] w3 (w3.setCell ⟨g,i*9+8,none⟩ (.int .i64 v))):=aA ((aR [g] w3).setCell (.inl (by simp)) _);by_cases hv:v=x8
 focus
  have HNE:=aA trivial;have HVV:=aA hv;clear hv
 rotate_left
 focus
  have HNE:=aA (oL hlt HLX.out (show (⟨x0,x1,x2,x3,x4,x5,x6,x7,v⟩:iD)≠_ from fun h=>hv (by simpa using h)));have HVV:=aA hv;clear hv
 all_goals
  have m:=iX HB3.out;have k:=m.zK;have c:=HX.out w3 (aR _ _);go_wp2_with ((with_reducible first|refine cU ?_|refine wU ?_);clear k m c;intro w m k;have c:=HX.out w m.zO)
  refine abs_row (G:=fun W=>Code.wp _ _ _ _ W) HR2.out O2.out ?_;clear HR2 O2 k m c;intro w2 hr2 o2;have HR2:=aA hr2;have hb2:=o2.got HB3.out (by have:=HGE.out;simp;omega);have O2:=aA (HOW.out.trans o2 (fun q hq=>.inr (by rw[List.mem_singleton.1 hq];exact Nat.le_of_lt HGE.out)));have HX2:=aA (fun w' (o:Oy [] w2 w')=>And.intro (HLC.out w' (O2.out.aB o)) (rowMs hr2 hlt w' o));dsimp only at HX2;clear hr2 o2 HX;have m:=iX hb2;have k:=m.zK;have c:=HX2.out w2 (aR _ _);have hv:=HVV.out;clear hb2;go_wp2_with (first|((with_reducible refine iY (id:=23) [0,1,2,3,4,5,6,7,8,9,10,11,12,13] [] ?_);simp only[bV];(repeat' (first|go_big_quiet_step (fail)|(refine wpQuiet_step (fun K hK=>?_);go_simp;(first|(refine hK _ ?_;clear hK K)|(split<;>(refine hK _ ?_;clear hK K))))));all_goals (refine wpQuiet_nil ?_;clear k m c;intro w m k;have c:=HX2.out w m.zO))|((with_reducible first|refine cU ?_|refine wU ?_);clear k m c;intro w m k;have c:=HX2.out w m.zO)|((with_reducible refine lE (fun w o g k K hK=>⟨rfl,?_⟩));simp[results,Tryz.results16,go_sem];refine hK _ ?_;exact⟨_,_,_,rfl,HR2.out.own HGB.out o,fun h=>by first|exact absurd h (by decide)|exact HNE.out,O2.out.aB o⟩))
theorem run_tot {R:List (Int × Int)} {s:eU} (hn:s.nd.length<=1000) {a d:bT} (k:rP R s a d):eB s a->wM s a->tot s a<=900000000->d.mks.length<=900000000:=by
 induction k with
 | done h=>intro _ _ ht;unfold tot at ht;omega
 | step h1 _ ih =>
  intro hI hF ht;obtain⟨i1,i2,i3⟩:=tH.inv hI hF hn (by omega) h1;exact ih i1 i2 (by omega)
theorem run_len {R:List (Int × Int)} {s:eU} (hp:ScP s) {c:Cf} (hc:eZ (RX c)=0) {st:bT} (h:rP R s (newF s c) st):st.mks.length<=900000000:=by
 obtain⟨k1,k2,k3⟩:=Q5 hp hc;exact run_tot (by have:=hp.nl;omega) h k1 k2 k3
theorem pChgLaw {w:World} (s:dW) (c:Cf) (h0:s.Ok0 w) (ix fd v:Int) {R:List (Int × Int)} (hR:rQ w R) :
  Calls Tryz.prog 6 #[fT s,JB c,.agg #[.int .i64 ix,.int .i64 fd,.int .i64 v]] w fun e w'=>e=.returned (.bool true)/\Oy [] w w':=by
 have HFEW:=aA (fun w' (o:Oy [] w w')=>pFew59 s (h0.nd.kept o) (h0.lk.kept o));have HRUN:=aA (fun (hf:VN s) w' (o:Oy [] w w')=>pNRun s c ((h0.ok hf).kept o) (hR.kept o));have HMK:=aA (fun (hf:VN s) w' (o:Oy [] w w') (l:List iD) (p:Option Addr) (cp:Nat) (ha:aU kC 9 w' p l.length cp l)=>QK s ((h0.ok hf).kept o) c (hR.kept o) ha);have HAW:=aA (fun w' (o:Oy [] w w')=>ZG (hR.kept o));have HP:=aA (fun (hf:VN s) (hz:iT s.sc c=0)=>(⟨(fK.qV (h0.ok hf) (kP hz).1).p,(kP hz).2⟩:ScP s.sc/\eZ (RX c)=0));clear h0 hR;have HNR:Hid (ME R=ME R):=aA rfl;obtain⟨wo,rfl⟩:∃ wo:World,wo=w:=⟨_,rfl⟩;unfold fT JB at *;have m:=bJ wo [];have k:=m.zK;go_enter Tryz.func6,Tryz.ntmps6
 go_wp2_with ((with_reducible first|refine cU ?_|refine wU ?_);clear k m;intro w m k)
 refine (HFEW.out _ m.zO).mono ?_;rintro r w2 ⟨b,rfl,hb,o2⟩;replace m:Mm wo [] w2 _:=⟨m.out.call o2⟩;clear k o2 HFEW;have k:=m.zK
 cases b
 focus
  go_wp2_with (first|((with_reducible first|refine cM (HAW.out _ gO) ?_|refine cU ?_|refine wU ?_);clear k m;intro w m k)|((with_reducible refine lE (fun w o g k K hK=>⟨rfl,?_⟩));simp[results,Tryz.results6,go_sem];refine hK _ ?_;exact⟨rfl,o⟩))
 focus
  have HF:=aA (hb rfl);clear hb;go_wp2_with ((with_reducible first|refine cU ?_|refine wU ?_);clear k m;intro w m k)
  refine (HRUN.out HF.out _ m.zO).mono ?_;rintro r w3 ⟨hr,o3⟩;replace m:Mm wo [] w3 _:=⟨m.out.call o3⟩;clear k o3 HRUN;have k:=m.zK;rcases hr with ⟨hz,rfl⟩|⟨hz,st,vv,hrun,rfl,own⟩
  ·have hne:(iT s.sc c != 0)=true:=by simpa using hz
   clear hz HMK HP;generalize iT s.sc c=e at hne |-;go_wp2_with (first|((with_reducible first|refine cM (HAW.out _ gO) ?_|refine cU ?_|refine wU ?_);clear k m;intro w m k)|((with_reducible refine lE (fun w o g k K hK=>⟨rfl,?_⟩));simp[results,Tryz.results6,go_sem];refine hK _ ?_;exact⟨rfl,o⟩))
  have HST:=aA hrun;have HZ:=aA hz;have hlen:=run_len (HP.out HF.out hz).1 (HP.out HF.out hz).2 hrun;obtain⟨q,cap,rfl,hv⟩:=own.dI bO;have HCH:=aA (fun w' (o:Oy [] w3 w')=>ZA (hv.kept o) (by omega) ix fd v);have O3:=aA m.zO;clear hrun hz own hv HP hlen;have q1:=gB (w:=w3) (b:=wo.heap.size);have q2:=gB (w:=w3) (b:=wo.heap.size+1);have q3:=gB (w:=w3) (b:=wo.heap.size+1+1);clear k m;have m:Mm w3 [] w3 _:=⟨(((Mem.start w3 []).ext false q1 (by simp) (by simp)).ext false q2 (by simp<;>omega) (by simp)).ext false q3 (by simp<;>omega) (by simp)⟩;have k:=m.zK;clear q1 q2 q3;go_wp2_with ((with_reducible first|refine cU ?_|refine wU ?_);clear k m;intro w m k)
  refine (HCH.out _ m.zO).mono ?_;rintro r w4 ⟨rv,ml,bb,rfl,hown,hmne,o4⟩;obtain⟨q4,cap4,rfl,hv4⟩:=hown.dI bO;have O4:=aA ((O3.out.aB m.zO).aB o4);have HV4:=aA hv4;replace m:Mm w3 [] w4 _:=⟨m.out.call o4⟩;have HMN:=aA hmne;clear hown o4 hv4 HCH hmne;have q1:=gB (w:=w4) (b:=wo.heap.size);have q2:=gB (w:=w4) (b:=wo.heap.size+1);have q3:=gB (w:=w4) (b:=wo.heap.size+1+1);clear k m;have m:Mm w4 [] w4 _:=⟨(((Mem.start w4 []).ext false q1 (by simp) (by simp)).ext false q2 (by simp<;>omega) (by simp)).ext false q3 (by simp<;>omega) (by simp)⟩;have k:=m.zK;clear q1 q2 q3
  cases bb
  focus
   go_wp2_with (first|((with_reducible first|refine cM (HAW.out _ (O4.out.aB gO)) ?_|refine cU ?_|refine wU ?_);clear k m;intro w m k)|((with_reducible refine lE (fun w o g k K hK=>⟨rfl,?_⟩));simp[results,Tryz.results6,go_sem];refine hK _ ?_;exact⟨rfl,O4.out.aB o⟩))
  focus
   have HNE:=aA (HMN.out rfl);clear HMN;go_wp2_with ((with_reducible first|refine cU ?_|refine wU ?_);clear k m;intro w m k)
   refine (HMK.out HF.out _ (O4.out.aB m.zO) _ _ _ (HV4.out.kept m.zO)).mono ?_;rintro r w5 ⟨hr,o5⟩;have O5:=aA ((O4.out.aB m.zO).aB o5);unfold MksR at hr;rcases hr with ⟨hz,-⟩|⟨-,st2,hst2,hr⟩
   ·exact absurd HZ.out hz
   obtain rfl:=HST.out.one hst2;rcases hr with ⟨-,rfl⟩|⟨-,v2,A,C,f,rfl,own2,-,hN,-,-⟩
   focus
    clear k m hst2 o5 HMK
   rotate_left
   focus
    obtain⟨g,rfl⟩:=hN HNE.out;obtain⟨p2,c2,rfl,-⟩:=own2.dI pG;have hpos:(0:Int)<((A ++ [g]).length:Int):=by rw[List.length_append,List.length_singleton];omega
    generalize (A ++ [g]).length=n at hpos |-;clear k m hst2 o5 HMK own2 hN
   rotate_left
  rotate_left 2
 rotate_left 2
 all_goals
  have m:=bJ w5 [];have k:=m.zK;go_wp2_with (first|((with_reducible first|refine cM (HAW.out _ (O5.out.aB gO)) ?_|refine cU ?_|refine wU ?_);clear k m;intro w m k)|((with_reducible refine lE (fun w o g k K hK=>⟨rfl,?_⟩));simp[results,Tryz.results6,go_sem];refine hK _ ?_;exact⟨rfl,O5.out.aB o⟩))
end Go.Proofs.YtppjhbjmfkiejaaGreat
