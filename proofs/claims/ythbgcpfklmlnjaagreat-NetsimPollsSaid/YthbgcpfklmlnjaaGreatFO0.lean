/- O0 O1 -/
import Derived.Test.YthbgcpfklmlnjaaGreatFJl
import Derived.Test.YthbgcpfklmlnjaaGreatFNt
import Derived.Test.YthbgcpfklmlnjaaGreatFNw
namespace Go.Proofs.YthbgcpfklmlnjaaGreat
set_option linter.all false
set_option maxRecDepth 100000
set_option maxHeartbeats 8000000
open Go.RowKit Go.Sort
section
theorem pClRoot {w:World} {P:Pl} {c:Cl} (h:bP w P c)  :
  Calls Tryz.prog 137 #[.pointer (some ⟨P.bc,0,none⟩)] w fun e w'=>e=.returned (.agg #[.int .i64 c.rt.str,.int .i64 c.rt.dly,.int .i64 c.rt.dsp,.int .u32 c.rt.ref])/\Only [] w w':=by
 have hl:=h.cl;unfold mI at hl;have m:=mY hl;have k:=m.out.k;clear hl;go_enter Tryz.func137,Tryz.ntmps137
 go_wp2_with (first|((with_reducible refine wU ?_);clear k m;intro w m k)|((with_reducible refine lE (fun w o g k K hK=>⟨rfl,?_⟩));simp[results,Tryz.results137,go_sem,k];refine hK _ ?_;exact⟨rfl,o⟩))
theorem XV {w:World} {P:Pl} {c:Cl} (h:bP w P c) :
  Calls Tryz.prog 97 #[.pointer (some ⟨P.bc,0,none⟩)] w fun e w'=>e=.returned (.agg #[.int .i64 c.ck.raw,.int .i64 c.ck.time,.int .i64 c.ck.ppb,.int .i64 0,.int .i64 0,.int .i64 c.ck.steps])/\Only [] w w':=by
 have hcl:=h.cl;unfold mI at hcl;have HS:=Lib.hid (fun w' (o:Only [] w w')=>SG (o.got h.ck (by simp)));clear h;have m:=mY hcl;have k:=m.out.k;clear hcl;go_enter Tryz.func97,Tryz.ntmps97
 go_wp2_with (first|((with_reducible first|refine cU ?_|refine cM (HS.out _ gO) ?_|refine wU ?_);clear k m;intro w m k)|((with_reducible refine lE (fun w o g k K hK=>⟨rfl,?_⟩));simp[results,Tryz.results97,go_sem,k];refine hK _ ?_;exact⟨rfl,o⟩))
end
section
structure eO (w:World) (s:dU):Prop where
 ok:s.Ok w
 osc:∀ x∈s.nd,cZ x.n.ph x.n.sg=0
 lk:∀ x∈s.lk,bV x.l=0
 ft:lS s.ft=0
 un:0<=s.un/\s.un<=1125899906842624
 er:∀ x∈s.nd,0<=x.n.er/\x.n.er<=1125899906842624
 nl:s.nd.length<=24
 nst:∀ x∈s.nd,0<=x.n.st/\x.n.st<=1125899906842624
 nsv:∀ x∈s.nd,x.n.sv.length<=12
 tol:∀ x∈s.nd,0<=x.n.tol/\x.n.tol<=500000
 svr:∀ x∈s.nd,∀ v∈x.n.sv,0<=v/\v<s.nd.length
theorem eO.kept {w w':World} {s:dU} (h:eO w s) (o:Only [] w w'):eO w' s:=⟨h.ok.kept o,h.osc,h.lk,h.ft,h.un,h.er,h.nl,h.nst,h.nsv,h.tol,h.svr⟩
theorem lk_eq (s:dU) (i:Nat):s.sc.lk.getD i yG=(s.lk.getD i iE).l:=by
 unfold dU.sc;rw[List.getD_eq_getElem?_getD,List.getD_eq_getElem?_getD,List.getElem?_map]
 cases s.lk[i]? <;> rfl
def MU (d:Bool):Int:=if d=true then 1 else 0
theorem SQ (j:Nat) (d:Bool):BM (some (j,d))=.tuple #[.int .i64 j,.int .i64 (MU d)]:=by cases d<;>rfl
theorem JO {w:World} {own:Col} {s:dU} {p:j5} {st:bS} (hw:Q8 w own s p st) (hs:eO w s) {R:List (Int × Int)} (hR:tT w R) (a b t n:Int) (t0:0<=t) (t1:t<=1125899906842624) (n0:0<=n) (n1:n<=1000000000) :
  Calls Tryz.prog 101 #[.pointer (some ⟨p.bw,0,none⟩),.int .i64 a,.int .i64 b,.int .i64 t,.int .i64 n] w fun e w'=>e=.returned (yL (wX R s.sc a b t n))/\Only [] w w':=by
 unfold wX;have HL:=Lib.hid (fun w' (o:Only [] w w')=>pLnk s a b (hs.ok.kept o));unfold fZ at HL;have hb:=hw.2;have hll:=hs.ok.ll
 cases hq:DL s.sc.lk a b with
 | none =>
  dsimp only;rw[hq] at HL;unfold BM at HL;unfold yL;dsimp only at HL |-;have m:=mY hb;have k:=m.out.k;clear hb hw hs;go_enter Tryz.func101,Tryz.ntmps101
  go_wp2_with (first|((with_reducible first|refine cM (HL.out _ gO) ?_|refine wU ?_);clear k m;intro w m k)|((with_reducible refine lE (fun w o g k K hK=>⟨rfl,?_⟩));simp[results,Tryz.results101,go_sem];refine hK _ ?_;exact⟨rfl,o⟩))
 | some x =>
  obtain⟨i,d⟩:=x;dsimp only;rw[hq,SQ] at HL;rw[lk_eq];show Calls _ _ _ _ (fun e w'=>e=.returned (yL (K3 R (s.lk.getD i iE).l (MU d) t n))/\_)
  have hi:i<s.lk.length:=by
   have:=(YJ _ _ _ _ hq).2;unfold dU.sc at this;simpa using this
  have hm:=bC iE hi;have hn:=hs.ok.lko _ hm;have hl:=hs.lk _ hm;have hdr:MU d=0\/MU d=1:=by cases d<;>simp[MU]
  have HA:=Lib.hid (fun w' (o:Only [] w w')=>pArrive (s.lk.getD i iE).l (MU d) t n (hn.row.kept o) hl hn.len hdr t0 t1 n0 (by omega) (hR.kept o));have HV:=Lib.hid hs.ok.lk;obtain⟨bk,off,hpl,-⟩:=HV.out.lk (Only.refl [] w) hi
  have HX:=Lib.hid (show ∀ w',Only [] w w'->bk<w'.heap.size/\w'.cell? ⟨bk,off+i*9+2,none⟩=some (.int .i64 (s.lk.getD i iE).l.d0)/\w'.cell? ⟨bk,off+i*9+3,none⟩=some (.int .i64 (s.lk.getD i iE).l.d1)/\w'.cell? ⟨bk,off+i*9+4,none⟩=some (.int .i64 (s.lk.getD i iE).l.v0)/\w'.cell? ⟨bk,off+i*9+5,none⟩=some (.int .i64 (s.lk.getD i iE).l.v1)/\w'.cell? ⟨bk,off+i*9+6,none⟩=some (.int .i64 (s.lk.getD i iE).l.lo)/\w'.cell? ⟨bk,off+i*9+7,none⟩=some (.int .u64 (s.lk.getD i iE).l.sd)/\w'.cell? ⟨bk,off+i*9+8,none⟩=some (.slice (s.lk.getD i iE).p (s.lk.getD i iE).l.ch.length (s.lk.getD i iE).c) from fun w' o=>by
   obtain⟨b',o',e,c1,c2,c3,c4,c5,c6,c7,c8,c9,c10⟩:=HV.out.lk o hi;rw[hpl] at e
   cases e
   exact⟨c1,c4,c5,c6,c7,c8,c9,c10⟩)
  rw[hpl] at hb HL;have hi2:(i:Int)<(s.lk.length:Int):=by omega
  have hi3:decide ((i:Int)<0)=false:=by simp
  clear hn hw hs hm hl HV hpl;unfold MN at HA;generalize K3 R (s.lk.getD i iE).l (MU d) t n=rr at HA |-;generalize (s.lk.getD i iE).l=nd at HX HA;generalize (s.lk.getD i iE).p=ps at HX HA;generalize (s.lk.getD i iE).c=cs at HX HA;have hsl:=hi;obtain⟨wo,hwo⟩:∃ wo:World,wo=w:=⟨_,rfl⟩;subst hwo;have m:=mY hb;have k:=m.out.k;have c:=HX.out _ (Only.refl [] wo);clear hb
  cases rr with
  | none =>
   unfold yL at HA |-;dsimp only at HA |-;go_enter Tryz.func101,Tryz.ntmps101
   go_wp2_with (first|((with_reducible first|refine cM (HL.out _ gO) ?_|refine cM (HA.out _ gO) ?_|refine cU ?_|refine wU ?_);clear k m c;intro w m k;have c:=HX.out w m.out.only)|((with_reducible refine lE (fun w o g k K hK=>⟨rfl,?_⟩));simp[results,Tryz.results101,go_sem];refine hK _ ?_;exact⟨rfl,o⟩))
  | some u =>
   unfold yL at HA |-;dsimp only at HA |-;go_enter Tryz.func101,Tryz.ntmps101
   go_wp2_with (first|((with_reducible first|refine cM (HL.out _ gO) ?_|refine cM (HA.out _ gO) ?_|refine cU ?_|refine wU ?_);clear k m c;intro w m k;have c:=HX.out w m.out.only)|((with_reducible refine lE (fun w o g k K hK=>⟨rfl,?_⟩));simp[results,Tryz.results101,go_sem];refine hK _ ?_;exact⟨rfl,o⟩))
end
end Go.Proofs.YthbgcpfklmlnjaaGreat
