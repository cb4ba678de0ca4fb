/- Jc Jd -/
import Derived.Test.YtppjhbjmfkiejaaGreatFJa
import Derived.BigQuiet
import Derived.Laws.CopyOwn
import Derived.Test.YtppjhbjmfkiejaaGreatFV6
namespace Go.Proofs.YtppjhbjmfkiejaaGreat
open List (getElem?_eq_getElem length_append length_cons length_nil length_take mem_append mem_cons not_mem_nil)
open IntKind (wrap_i64)
set_option maxRecDepth 100000
set_option maxHeartbeats 4000000
open IntKind (wrap)
section
open Go.RowKit
structure Sc where
 kp:Int
 ki:Int
 lim:Int
 sf:Int
 sl:Int
deriving DecidableEq,Inhabited
structure Sv where
 c:Sc
 itg:Int
 smp:Int
 frq:Int
deriving DecidableEq,Inhabited
def scV (c:Sc):Value:=.agg #[.int .i64 c.kp,.int .i64 c.ki,.int .i64 c.lim,.int .i64 c.sf,.int .i64 c.sl]
def tQ (c:Sc):Int:=if bZ c.kp 0 1048576 && (bZ c.ki 0 1048576 && (bZ c.lim 1 500000 && (bZ c.sf 0 1125899906842624 && bZ c.sl 0 1125899906842624))) then 0 else 3
def mH (w:World) (b:Nat) (s:Sv):Prop:=w.heap[b]? = some (.cells #[.int .i64 s.c.kp,.int .i64 s.c.ki,.int .i64 s.c.lim,.int .i64 s.c.sf,.int .i64 s.c.sl,.int .i64 s.itg,.int .i64 s.smp,.int .i64 s.frq] 215 (0,0))
theorem max_min {n lo hi:Int} (h:lo<=hi):max lo (min n hi)=dA n lo hi:=by
 unfold dA;split
 ·omega
 ·split<;>omega
theorem zP (n lo hi:Int) (h:lo<=hi) (w:World) :
  Calls Tryz.prog 94 #[.int .i64 n,.int .i64 lo,.int .i64 hi] w fun e w'=>e=.returned (.int .i64 (dA n lo hi))/\Oy [] w w':=by
 have hm:=max_min (n:=n) h;have HM:=aA hm.symm;clear hm;go_enter Tryz.func94,Tryz.ntmps94
 have OO:=aA (aR [] w);go_wp2;go_ret
 exact⟨by rw[HM.out];rfl,OO.out⟩
theorem lJ (n lo hi:Int) (h:lo<=hi) (w:World) :
  Calls Tryz.prog 79 #[.int .i64 n,.int .i64 lo,.int .i64 hi] w fun e w'=>e=.returned (.bool (bZ n lo hi))/\Oy [] w w':=by
 have HC:=aA (fun w'=>zP n lo hi h w')
 have hv:(dA n lo hi == n)=bZ n lo hi:=by
  cases hw:bZ n lo hi
  ·exact LK h hw
  ·rw[FR hw];simp
 generalize bZ n lo hi=r at hv |-;generalize dA n lo hi=c at HC hv;go_enter Tryz.func79,Tryz.ntmps79
 have OO:=aA (aR [] w);go_wp2_with fail
 refine (HC.out _).mono ?_;rintro e w2 ⟨rfl,ho⟩;replace OO:=aA (OO.out.aB ho);clear ho;go_wp2;go_ret
 exact⟨rfl,OO.out⟩
theorem YD (c:Sc) (w:World) :
  Calls Tryz.prog 62 #[scV c] w fun e w'=>e=.returned (.int .i64 (tQ c))/\Oy [] w w':=by
 obtain⟨kp,ki,lm,sf,sl⟩:=c;have HE:Hid (tQ ⟨kp,ki,lm,sf,sl⟩=if bZ kp 0 1048576 && (bZ ki 0 1048576 && (bZ lm 1 500000 && (bZ sf 0 1125899906842624 && (bZ sl 0 1125899906842624)))) then 0 else 3):=aA rfl;generalize tQ ⟨kp,ki,lm,sf,sl⟩=res at HE |-;have H1:=aA (fun w'=>lJ kp 0 1048576 (by omega) w');generalize bZ kp 0 1048576=x1 at H1 HE;have H2:=aA (fun w'=>lJ ki 0 1048576 (by omega) w');generalize bZ ki 0 1048576=x2 at H2 HE;have H3:=aA (fun w'=>lJ lm 1 500000 (by omega) w');generalize bZ lm 1 500000=x3 at H3 HE;have H4:=aA (fun w'=>lJ sf 0 1125899906842624 (by omega) w');generalize bZ sf 0 1125899906842624=x4 at H4 HE;have H5:=aA (fun w'=>lJ sl 0 1125899906842624 (by omega) w');generalize bZ sl 0 1125899906842624=x5 at H5 HE;unfold scV;dsimp only
 cases x1
 focus
  obtain rfl:res=3:=by have:=HE.out;simpa using this
  clear HE;go_enter Tryz.func62,Tryz.ntmps62
  go_upto_region 1 with (fail)
  refine aG (G:=fun w0=>Code.wp _ _ _ _ w0) ?_;intro w1 hb1 ho1 hs1;obtain⟨b1,hbe1⟩:∃ b,w.heap.size=b:=⟨_,rfl⟩;rw[hbe1] at hb1;rw[hbe1];have HN:Hid (w.heap.size<=b1):=aA (by omega);have B1:=aA hb1;have OO:=aA ho1;clear hb1 hs1 hbe1;clear ho1;have k1:=FV B1.out;go_wp2_with fail
  refine (H1.out _).mono ?_;rintro e w2 ⟨rfl,ho⟩
 rotate_left
 focus
  cases x2
  focus
   obtain rfl:res=3:=by have:=HE.out;simpa using this
   clear HE;go_enter Tryz.func62,Tryz.ntmps62
   go_upto_region 1 with (fail)
   refine aG (G:=fun w0=>Code.wp _ _ _ _ w0) ?_;intro w1 hb1 ho1 hs1;obtain⟨b1,hbe1⟩:∃ b,w.heap.size=b:=⟨_,rfl⟩;rw[hbe1] at hb1;rw[hbe1];have HN:Hid (w.heap.size<=b1):=aA (by omega);have B1:=aA hb1;have OO:=aA ho1;clear hb1 hs1 hbe1;clear ho1;have k1:=FV B1.out;go_wp2_with fail
   refine (H1.out _).mono ?_;rintro e w2 ⟨rfl,ho⟩;clear k1;replace OO:=aA (OO.out.aB ho);replace B1:=aA (ho.got B1.out (by simp));clear ho;have k1:=FV B1.out;go_wp2_with fail
   refine (H2.out _).mono ?_;rintro e w3 ⟨rfl,ho⟩
  rotate_left
  focus
   cases x3
   focus
    obtain rfl:res=3:=by have:=HE.out;simpa using this
    clear HE;go_enter Tryz.func62,Tryz.ntmps62
    go_upto_region 1 with (fail)
    refine aG (G:=fun w0=>Code.wp _ _ _ _ w0) ?_;intro w1 hb1 ho1 hs1;obtain⟨b1,hbe1⟩:∃ b,w.heap.size=b:=⟨_,rfl⟩;rw[hbe1] at hb1;rw[hbe1];have HN:Hid (w.heap.size<=b1):=aA (by omega);have B1:=aA hb1;have OO:=aA ho1;clear hb1 hs1 hbe1;clear ho1;have k1:=FV B1.out;go_wp2_with fail
    refine (H1.out _).mono ?_;rintro e w2 ⟨rfl,ho⟩;clear k1;replace OO:=aA (OO.out.aB ho);replace B1:=aA (ho.got B1.out (by simp));clear ho;have k1:=FV B1.out;go_wp2_with fail
    refine (H2.out _).mono ?_;rintro e w3 ⟨rfl,ho⟩;clear k1;replace OO:=aA (OO.out.aB ho);replace B1:=aA (ho.got B1.out (by simp));clear ho;have k1:=FV B1.out;go_wp2_with fail
    refine (H3.out _).mono ?_;rintro e w4 ⟨rfl,ho⟩
   rotate_left
   focus
    cases x4
    focus
     obtain rfl:res=3:=by have:=HE.out;simpa using this
     clear HE;go_enter Tryz.func62,Tryz.ntmps62
     go_upto_region 1 with (fail)
     refine aG (G:=fun w0=>Code.wp _ _ _ _ w0) ?_;intro w1 hb1 ho1 hs1;obtain⟨b1,hbe1⟩:∃ b,w.heap.size=b:=⟨_,rfl⟩;rw[hbe1] at hb1;rw[hbe1];have HN:Hid (w.heap.size<=b1):=aA (by omega);have B1:=aA hb1;have OO:=aA ho1;clear hb1 hs1 hbe1;clear ho1;have k1:=FV B1.out;go_wp2_with fail
     refine (H1.out _).mono ?_;rintro e w2 ⟨rfl,ho⟩;clear k1;replace OO:=aA (OO.out.aB ho);replace B1:=aA (ho.got B1.out (by simp));clear ho;have k1:=FV B1.out;go_wp2_with fail
     refine (H2.out _).mono ?_;rintro e w3 ⟨rfl,ho⟩;clear k1;replace OO:=aA (OO.out.aB ho);replace B1:=aA (ho.got B1.out (by simp));clear ho;have k1:=FV B1.out;go_wp2_with fail
     refine (H3.out _).mono ?_;rintro e w4 ⟨rfl,ho⟩;clear k1;replace OO:=aA (OO.out.aB ho);replace B1:=aA (ho.got B1.out (by simp));clear ho;have k1:=FV B1.out;go_wp2_with fail
     refine (H4.out _).mono ?_;rintro e w5 ⟨rfl,ho⟩
    rotate_left
    focus
     cases x5
     focus
      obtain rfl:res=3:=by have:=HE.out;simpa using this
     rotate_left
     focus
      obtain rfl:res=0:=by have:=HE.out;simpa using this
     rotate_left
     all_goals
      clear HE;go_enter Tryz.func62,Tryz.ntmps62
      go_upto_region 1 with (fail)
      refine aG (G:=fun w0=>Code.wp _ _ _ _ w0) ?_;intro w1 hb1 ho1 hs1;obtain⟨b1,hbe1⟩:∃ b,w.heap.size=b:=⟨_,rfl⟩;rw[hbe1] at hb1;rw[hbe1];have HN:Hid (w.heap.size<=b1):=aA (by omega);have B1:=aA hb1;have OO:=aA ho1;clear hb1 hs1 hbe1;clear ho1;have k1:=FV B1.out;go_wp2_with fail
      refine (H1.out _).mono ?_;rintro e w2 ⟨rfl,ho⟩;clear k1;replace OO:=aA (OO.out.aB ho);replace B1:=aA (ho.got B1.out (by simp));clear ho;have k1:=FV B1.out;go_wp2_with fail
      refine (H2.out _).mono ?_;rintro e w3 ⟨rfl,ho⟩;clear k1;replace OO:=aA (OO.out.aB ho);replace B1:=aA (ho.got B1.out (by simp));clear ho;have k1:=FV B1.out;go_wp2_with fail
      refine (H3.out _).mono ?_;rintro e w4 ⟨rfl,ho⟩;clear k1;replace OO:=aA (OO.out.aB ho);replace B1:=aA (ho.got B1.out (by simp));clear ho;have k1:=FV B1.out;go_wp2_with fail
      refine (H4.out _).mono ?_;rintro e w5 ⟨rfl,ho⟩;clear k1;replace OO:=aA (OO.out.aB ho);replace B1:=aA (ho.got B1.out (by simp));clear ho;have k1:=FV B1.out;go_wp2_with fail
      refine (H5.out _).mono ?_;rintro e w6 ⟨rfl,ho⟩
    rotate_left 2
   rotate_left 3
  rotate_left 4
 rotate_left 5
 all_goals
  clear k1;replace OO:=aA (OO.out.aB ho);replace B1:=aA (ho.got B1.out (by simp));clear ho;have k1:=FV B1.out;go_wp2;go_ret
  exact⟨rfl,OO.out⟩
theorem pSvNew (c:Sc) (h:tQ c=0) (w:World) :
  Calls Tryz.prog 65 #[scV c] w fun e w'=>(∃ b,e=.returned (.pointer (some ⟨b,0,none⟩))/\w.heap.size<=b/\mH w' b ⟨c,0,0,0⟩)/\Oy [] w w':=by
 have HC:=aA (fun w'=>YD c w');obtain⟨kp,ki,lm,sf,sl⟩:=c;rw[h] at HC;unfold scV at HC |-;dsimp only at HC |-;go_enter Tryz.func65,Tryz.ntmps65
 go_upto_region 1 with (fail)
 refine aG (G:=fun w0=>Code.wp _ _ _ _ w0) ?_;intro w1 hb1 ho1 hs1;obtain⟨b1,hbe1⟩:∃ b,w.heap.size=b:=⟨_,rfl⟩;rw[hbe1] at hb1;rw[hbe1];have HN:Hid (w.heap.size<=b1):=aA (by omega);have B1:=aA hb1;have OO:=aA ho1;clear hb1 hs1 hbe1;clear ho1;have k1:=FV B1.out;go_wp2_with fail
 refine (HC.out _).mono ?_;rintro e w2 ⟨rfl,ho⟩;clear k1;replace OO:=aA (OO.out.aB ho);replace B1:=aA (ho.got B1.out (by simp));clear ho;have k1:=FV B1.out;go_wp2;refine aG (G:=fun w0=>bodyPost _ _ _ _ _ w0) ?_;intro w3 hb ho _;go_ret
 exact⟨⟨_,rfl,OO.out.size,hb⟩,OO.out.aB ho⟩
structure Fl where
 tol:Int
 l:List iU
deriving DecidableEq,Inhabited
def jW (w:World) (b:Nat) (f:Fl):Prop:=∃ (L:List Value) (sh:Bool) (la:Int),L.length=32/\(∀ v∈L,∃ z,v=.int .i64 z)/\L.take (f.l.length*4)=f.l.flatMap jX/\f.l.length<=8 /\
 w.heap[b]? = some (.cells (.int .i64 f.tol::(L ++ [.int .i64 f.l.length,.bool sh,.int .i64 la])).toArray 225 (0,0))
theorem jW.kept {w w':World} {b:Nat} {f:Fl} {S:List Nat} (h:jW w b f) (ho:Oy S w w') (hS:b ∉ S):jW w' b f:=by
 obtain⟨L,sh,la,h1,h2,h3,h4,h⟩:=h;exact⟨L,sh,la,h1,h2,h3,h4,ho.got h hS⟩
theorem jW.lt {w:World} {b:Nat} {f:Fl} (h:jW w b f):b<w.heap.size:=by
 obtain⟨L,sh,la,h1,h2,h3,h4,h⟩:=h;exact aF h
theorem pFNew (tol:Int) (h0:0<=tol) (h1:tol<=500000) (w:World) :
  Calls Tryz.prog 68 #[.int .i64 tol] w fun e w'=>(∃ b,e=.returned (.pointer (some ⟨b,0,none⟩))/\w.heap.size<=b/\jW w' b ⟨tol,[]⟩)/\Oy [] w w':=by
 have d1:decide (tol<0)=false:=by simp;omega
 have d2:decide (500000<tol)=false:=by simp;omega
 go_enter Tryz.func68,Tryz.ntmps68
 have OO:=aA (aR [] w);go_wp2;refine aG (G:=fun w0=>bodyPost _ _ _ _ _ w0) ?_;intro w3 hb ho _;go_ret
 refine⟨⟨_,rfl,OO.out.size,?_⟩,OO.out.aB ho⟩;exact⟨List.replicate 32 (.int .i64 0),false,0,by decide,fun v hv=>⟨0,List.eq_of_mem_replicate hv⟩,by simp,by simp,hb⟩
end
section
open Go.RowKit
def wC (f:Fl) (s:iU):Fl:={ f with l:=(if f.l.length=8 then f.l.drop 1 else f.l) ++ [s] }
def IY (f:Fl) (s:iU):Fl × Int:=
 if gJ s=0 then (match f.l.getLast? with
  | some x=>if s.tat<=x.tat then (f,12) else (wC f s,0)
  | none=>(wC f s,0)) else (f,3)
def jU (tol:Int) (L:List Value) (n:Int) (sh:Bool) (la:Int):List Value:=.int .i64 tol::(L ++ [.int .i64 n,.bool sh,.int .i64 la])
theorem kQ {tol:Int} {L:List Value} {n:Int} {sh:Bool} {la:Int} (h:L.length=32):(jU tol L n sh la).length=36:=by simp[jU,h]
theorem xK {tol:Int} {L:List Value} {n:Int} {sh:Bool} {la:Int} (h:L.length=32) {j:Nat} (hj:j<32):(jU tol L n sh la)[1+j]? = L[j]? :=by
 rw[jU,Nat.add_comm,List.getElem?_cons_succ,List.getElem?_append_left (by omega)]
theorem iA {tol:Int} {L:List Value} {n:Int} {sh:Bool} {la:Int} (h:L.length=32):(jU tol L n sh la)[33]? = some (.int .i64 n):=by
 rw[jU,show 33=32+1 from rfl,List.getElem?_cons_succ,List.getElem?_append_right (by omega),h];rfl
theorem UU {tol:Int} {L:List Value} {n m:Int} {sh:Bool} {la:Int} (h:L.length=32):(jU tol L n sh la).set 33 (.int .i64 m)=jU tol L m sh la:=by
 rw[jU,show 33=32+1 from rfl,List.set_cons_succ,List.set_append_right _ _ (by omega),h];rfl
theorem zV {tol:Int} {L:List Value} {n:Int} {sh:Bool} {la:Int} (h:L.length=32) {j:Nat} (hj:j<32) (v:Value):(jU tol L n sh la).set (1+j) v=jU tol (L.set j v) n sh la:=by
 rw[jU,Nat.add_comm,List.set_cons_succ,List.set_append_left _ _ (by omega)];rfl
theorem WX {L:List Value} {o:Nat} (ho:o+4<=L.length) (a b c d:Value):(((L.set o a).set (o+1) b).set (o+2) c).set (o+3) d=L.take o ++ [a,b,c,d] ++ L.drop (o+4):=by
 apply List.ext_getElem?
 intro i;simp only[List.getElem?_set,List.length_set];by_cases h1:i<o
 ·rw[if_neg (by omega),if_neg (by omega),if_neg (by omega),if_neg (by omega),List.append_assoc,List.getElem?_append_left (by rw[length_take];omega),List.getElem?_take,if_pos h1]
 ·by_cases h2:i<o+4
  ·rw[List.append_assoc,List.getElem?_append_right (by rw[length_take];omega),length_take,Nat.min_eq_left (by omega),List.getElem?_append_left (by simp;omega)]
   rcases (by omega:i=o\/i=o+1\/i=o+2\/i=o+3) with rfl|rfl|rfl|rfl
   ·rw[if_neg (by omega),if_neg (by omega),if_neg (by omega),if_pos rfl,if_pos (by omega)];simp
   ·rw[if_neg (by omega),if_neg (by omega),if_pos rfl,if_pos (by omega)];simp
   ·rw[if_neg (by omega),if_pos rfl,if_pos (by omega)];simp
   ·rw[if_pos rfl,if_pos (by omega)];simp
  ·rw[if_neg (by omega),if_neg (by omega),if_neg (by omega),if_neg (by omega),List.append_assoc,List.getElem?_append_right (by rw[length_take];omega),length_take,Nat.min_eq_left (by omega),List.getElem?_append_right (by simp;omega),List.getElem?_drop]
   congr 1
   simp only[length_cons,length_nil];omega
theorem GH (l:List iU):(l.flatMap jX).length=l.length*4:=dK jX 4 iJ l
theorem GX {L:List Value} {l:List iU} {s:iU} (hL:L.length=32) (hI:∀ v∈L,∃ z,v=.int .i64 z) (hT:L.take (l.length*4)=l.flatMap jX) (h8:l.length<8) :
  (L.take (l.length*4) ++ jX s ++ L.drop (l.length*4+4)).length=32/\(∀ v∈L.take (l.length*4) ++ jX s ++ L.drop (l.length*4+4),∃ z,v=.int .i64 z) /\
  (L.take (l.length*4) ++ jX s ++ L.drop (l.length*4+4)).take ((l ++ [s]).length*4)=(l ++ [s]).flatMap jX:=by
 refine⟨by simp[jX];omega,fun v hv=>?_,?_⟩
 ·simp only[List.append_assoc,mem_append] at hv
  rcases hv with hv|hv|hv
  ·exact hI v (List.mem_of_mem_take hv)
  ·simp only[jX,mem_cons,not_mem_nil,or_false] at hv
   rcases hv with rfl|rfl|rfl|rfl<;>exact⟨_,rfl⟩
  ·exact hI v (List.mem_of_mem_drop hv)
 ·have e1:(l.flatMap jX ++ jX s).length=(l ++ [s]).length*4:=by rw[length_append,GH,iJ,length_append];simp only[length_cons,length_nil];omega
  rw[hT,List.flatMap_append,List.take_append_of_le_length (Nat.le_of_eq e1.symm),List.take_of_length_le (Nat.le_of_eq e1)];simp
theorem WU {L:List Value} {l:List iU} (hL:L.length=32) (hI:∀ v∈L,∃ z,v=.int .i64 z) (hT:L.take (l.length*4)=l.flatMap jX) (h8:l.length=8) :
  ((L.drop 4).take 28 ++ L.drop 28).length=32/\(∀ v∈(L.drop 4).take 28 ++ L.drop 28,∃ z,v=.int .i64 z)/\((L.drop 4).take 28 ++ L.drop 28).take ((l.drop 1).length*4)=(l.drop 1).flatMap jX:=by
 refine⟨by simp;omega,fun v hv=>?_,?_⟩
 ·rcases mem_append.1 hv with hv|hv
  ·exact hI v (List.mem_of_mem_drop (List.mem_of_mem_take hv))
  ·exact hI v (List.mem_of_mem_drop hv)
 ·have hl:(l.drop 1).length=7:=by rw[List.length_drop];omega
  rw[hl,List.take_append_of_le_length (by simp;omega),List.take_take];have hd:(L.take (l.length*4)).drop 4=(l.flatMap jX).drop 4:=by rw[hT]
  rw[h8,List.drop_take] at hd
  have hf:(l.flatMap jX).drop 4=(l.drop 1).flatMap jX:=by
   cases l with
   | nil=>simp at h8
   | cons a r=>simp[List.flatMap_cons,jX]
  rw[<-hf,<-hd];rfl
theorem FL {w:World} {b:Nat} {tol:Int} {L:List Value} {l:List iU} {sh:Bool} {la:Int} (hL:L.length=32) (hI:∀ v∈L,∃ z,v=.int .i64 z) (hT:L.take (l.length*4)=l.flatMap jX) (h8:l.length<=8)
 (h:w.heap[b]? = some (.cells (jU tol L l.length sh la).toArray 225 (0,0))):jW w b ⟨tol,l⟩:=⟨L,sh,la,hL,hI,hT,h8,h⟩
theorem fl_at {L:List Value} {l:List iU} (hT:L.take (l.length*4)=l.flatMap jX) {k:Nat} (hk:k<l.length) (j:Nat) (hj:j<4):L[k*4+j]? = (jX l[k])[j]? :=by
 have h1:=flat_get jX 4 iJ l k j l[k] (getElem?_eq_getElem hk) hj;rw[<-hT,List.getElem?_take,if_pos (by omega)] at h1;exact h1
theorem K5 {w:World} {b:Nat} {tol:Int} {L:List Value} {n:Int} {sh:Bool} {la:Int} {o:Int} {d:Int} {e:Int} {t:Int} (hL:L.length=32) {k:Nat} (hk:k<8)
  (h:w.heap[b]? = some (.cells (jU tol L n sh la).toArray 225 (0,0))) :
  ((((w.setCell ⟨b,1+k*4,none⟩ (.int .i64 o)).setCell ⟨b,1+k*4+1,none⟩ (.int .i64 d)).setCell ⟨b,1+k*4+2,none⟩ (.int .i64 e)).setCell ⟨b,1+k*4+3,none⟩ (.int .i64 t)).heap[b]? = some (.cells (jU tol (L.take (k*4) ++ jX ⟨o,d,e,t⟩ ++ L.drop (k*4+4)) n sh la).toArray 225 (0,0)):=by
 have:=aH (o:=1+k*4+3) (.int .i64 t) (aH (o:=1+k*4+2) (.int .i64 e) (aH (o:=1+k*4+1) (.int .i64 d) (aH (o:=1+k*4) (.int .i64 o) h)));rw[this];simp only[List.setIfInBounds_toArray];rw[zV hL (by omega),show 1+k*4+1=1+(k*4+1) by omega,zV (by simpa using hL) (by omega),show 1+k*4+2=1+(k*4+2) by omega,zV (by simpa using hL) (by omega),show 1+k*4+3=1+(k*4+3) by omega,zV (by simpa using hL) (by omega),WX (by omega)];rfl
theorem CW {w:World} {b:Nat} {tol:Int} {L:List Value} {n m:Int} {sh:Bool} {la:Int} (hL:L.length=32)
  (h:w.heap[b]? = some (.cells (jU tol L n sh la).toArray 225 (0,0))):(w.setCell ⟨b,33,none⟩ (.int .i64 m)).heap[b]? = some (.cells (jU tol L m sh la).toArray 225 (0,0)):=by
 rw[aH _ h,List.setIfInBounds_toArray,UU hL]
theorem D9 {P:Program} (w:World) (dT sT ty elem:TypeId) (g o dLen dCap:Nat) (a:Addr) (sLen sCap:Nat) (cur:Array Value) (t:TypeId) (cs:List Value) (s N:Nat)
  (hu:P.underlying dT=some (.slice elem)) (hs:(P.info? elem).map (·.size)=some s)
  (hg:w.heap[g]? = some (.cells cur t (0,0))) (hN:Nat.min sLen dLen=N) (hn:cs.length=N*s)
  (hsrc:∀ j v,cs[j]? = some v->w.cell? (a.add j)=some v) (hfit:o+cs.length<=cur.size) (h1:∀ v∈cs,v.oneCell'=true) :
  (Builtin.copy_ #[dT,sT] ty #[.slice (some ⟨g,o,none⟩) dLen dCap,.slice (some a) sLen sCap]).run P w =
   .ok (goInt N) (w.setRow g (cur.toList.take o ++ cs ++ cur.toList.drop (o+cs.length)).toArray):=by
 have hl:=run_loadCells_list (P:=P) w a cs hsrc;have hst:=run_storeCells_at P g o t cs 0 cur w hg (by simpa using hfit) h1
 cases hq:P.info? elem with
 | none=>simp[hq] at hs
 | some i =>
  have hi:i.size=s:=by simpa [hq] using hs
  rw[hn] at hl;simp[Builtin.copy_,run_underlying hu,Builtin.lenOf,Builtin.firstCells,sizeOf,typeInfo,hq,hi,hN,hl,hst]
theorem wQ {P:Program} {w:World} {ops:Array Oper} {rest:List Oper} {o:Oper} {a:Act} {Q:Exit->Act->World->Prop} (hgd:o.guard=none) (d s:Operand) (dT sT:TypeId)
  (ho:o.op=.call { callee:=.builtin .copy,args:=#[d,s],argTypes:=#[dT,sT] }) (elem:TypeId) (sz N:Nat) (hu:P.underlying dT=some (.slice elem)) (hsz:(P.info? elem).map (·.size)=some sz)
  (g off dLen dCap:Nat) (ad:Addr) (sLen sCap:Nat) (hd:a.eval d=.slice (some ⟨g,off,none⟩) dLen dCap) (hs:a.eval s=.slice (some ad) sLen sCap)
  (cur:Array Value) (t:TypeId) (hg:w.heap[g]? = some (.cells cur t (0,0))) (cs:List Value) (hN:Nat.min sLen dLen=N) (hn:cs.length=N*sz)
  (hsrc:∀ j v,cs[j]? = some v->w.cell? (ad.add j)=some v) (hfit:off+cs.length<=cur.size) (h1:∀ v∈cs,v.oneCell'=true)
  (h:wpList P ops Q rest (a.put o.dst (goInt N)) (w.setRow g (cur.toList.take off ++ (cs ++ cur.toList.drop (off+cs.length))).toArray)):wpList P ops Q (o::rest) a w:=by
 refine wpList_plain hgd fun K hK=>?_;have hrun:=D9 (P:=P) w dT sT o.type elem g off dLen dCap ad sLen sCap cur t cs sz N hu hsz hg hN hn hsrc hfit h1;unfold Oper.wp;simp[execOp,ho,resolve,invoke,builtin,hd,hs,hrun,Result.andThen];exact hK _ _ h
end
section
open Go.RowKit
theorem Z5 {l:List iU} {x:iU} (h:l.getLast? = some x):∃ j,l.length=j+1/\∃ hj:j<l.length,l[j]=x:=by
 rw[List.getLast?_eq_getElem?] at h
 have hlt:l.length-1<l.length:=by
  rcases Nat.eq_zero_or_pos l.length with h0|h0
  ·rw[h0] at h;simp at h
   have:=List.eq_nil_of_length_eq_zero h0;subst this;cases h
  ·omega
 rw[getElem?_eq_getElem hlt] at h;exact⟨l.length-1,by omega,hlt,Option.some.inj h⟩
theorem UY {w:World} {b:Nat} {tol:Int} {L:List Value} {n:Int} {sh:Bool} {la:Int} {o:Int} {d:Int} {e:Int} {t:Int} (hL:L.length=32)
  (h:w.heap[b]? = some (.cells (jU tol L n sh la).toArray 225 (0,0))) :
  ((((w.setCell ⟨b,29,none⟩ (.int .i64 o)).setCell ⟨b,30,none⟩ (.int .i64 d)).setCell ⟨b,31,none⟩ (.int .i64 e)).setCell ⟨b,32,none⟩ (.int .i64 t)).heap[b]? = some (.cells (jU tol (L.take 28 ++ jX ⟨o,d,e,t⟩ ++ L.drop 32) n sh la).toArray 225 (0,0)):=by
 have h5:=K5 (k:=7) (o:=o) (d:=d) (e:=e) (t:=t) hL (by omega) h;simp only[Nat.reduceMul,Nat.reduceAdd] at h5;exact h5
theorem pFAdd {w:World} {b:Nat} {f:Fl} (hf:jW w b f) (s:iU) :
  Calls Tryz.prog 247 #[.pointer (some ⟨b,0,none⟩),wV s] w fun e w'=>e=.returned (.int .i64 (IY f s).2)/\jW w' b (IY f s).1/\Oy [b] w w':=by
 obtain⟨L,sh,la,hL,hI,hT,h8,hF0⟩:=hf;obtain⟨tol,l⟩:=f;obtain⟨a,bb,c,d⟩:=s;dsimp only at hT h8 hF0;have hF:w.heap[b]? = some (.cells (jU tol L l.length sh la).toArray 225 (0,0)):=hF0;have FF:=aA hF;have HL:=aA (And.intro hL (And.intro hI (And.intro hT h8)));have hblt:=aF hF;have HBL:=aA hblt;have HC:=aA (fun w'=>EW ⟨a,bb,c,d⟩ w');have hso:=vK ⟨a,bb,c,d⟩
 have HE:Hid (IY ⟨tol,l⟩ ⟨a,bb,c,d⟩=if gJ ⟨a,bb,c,d⟩=0 then (match l.getLast? with
   | some x=>if d<=x.tat then (⟨tol,l⟩,12) else (wC ⟨tol,l⟩ ⟨a,bb,c,d⟩,0)
   | none=>(wC ⟨tol,l⟩ ⟨a,bb,c,d⟩,0)) else (⟨tol,l⟩,(3:Int))):=aA rfl
 generalize IY ⟨tol,l⟩ ⟨a,bb,c,d⟩=res at HE |-;generalize gJ ⟨a,bb,c,d⟩=er at HC HE hso;obtain⟨n,hn⟩:∃ n,l.length=n:=⟨_,rfl⟩;rw[hn] at FF;unfold wV at HC |-;dsimp only at HC |-;clear hL hI hT hF0 hF hblt;rcases hso with rfl|rfl;rotate_left
 ·obtain rfl:res=(⟨tol,l⟩,3):=by have:=HE.out;simpa using this
  clear HE;go_enter Tryz.func247,Tryz.ntmps247
  go_upto_region 1 with (fail)
  refine aG (G:=fun w0=>Code.wp _ _ _ _ w0) ?_;intro w1 hb1 ho1 hs1;obtain⟨b1,hbe1⟩:∃ b,w.heap.size=b:=⟨_,rfl⟩;rw[hbe1] at hb1;rw[hbe1];have HN:Hid (w.heap.size<=b1):=aA (by omega);have B1:=aA hb1;have OO:=aA ho1;clear hb1 hs1 hbe1;replace OO:=aA (ho1.weak (S':=[b]) (by simp));replace FF:=aA (ho1.got FF.out (by simp));clear ho1;have k1:=uY B1.out;have c33:w1.cell? ⟨b,33,none⟩=some (.int .i64 (n:Int)):=by rw[aC FF.out,List.getElem?_toArray];exact iA HL.out.1
  have lb:=aF FF.out;go_wp2_with fail
  refine (HC.out _).mono ?_;rintro e w2 ⟨rfl,ho⟩;clear k1 c33 lb;replace OO:=aA (OO.out.aB ho);replace B1:=aA (ho.got B1.out (by simp));replace FF:=aA (ho.got FF.out (by simp));clear ho;have k1:=uY B1.out;have c33:w2.cell? ⟨b,33,none⟩=some (.int .i64 (n:Int)):=by rw[aC FF.out,List.getElem?_toArray];exact iA HL.out.1
  have lb:=aF FF.out;go_wp2;go_ret
  exact⟨rfl,FL HL.out.1 HL.out.2.1 HL.out.2.2.1 HL.out.2.2.2 (by rw[hn];exact FF.out),OO.out⟩
 obtain⟨hL,hI,hT,_⟩:=HL.out;have HLL:=aA hL;rcases hlast:l.getLast? with _|x
 focus
  have hl0:l.length=0:=by rw[List.getLast?_eq_none_iff.1 hlast];rfl
  obtain rfl:res=(⟨tol,l ++ [⟨a,bb,c,d⟩]⟩,0):=by have:=HE.out;simpa [wC,hlast,hl0] using this
  have HP:=aA (GX (s:=⟨a,bb,c,d⟩) hL hI hT (by omega));have d0:decide ((0:Int)<(n:Int))=false:=by simp;omega
  have d0':decide (0<n)=false:=by simp;omega
  have n8:((n:Int) == 8)=false:=by rw[beq_eq_false_iff_ne];omega
  have n8i:(n:Int)<8:=by omega
  have n8n:n<8:=by omega
  have hnw:wrap .i64 ((n:Int)+1)=(n:Int)+1:=by rw[wrap_i64];omega
  rw[hn] at HP;have HN:=aA hn;clear HE hlast hL hI hT h8 hl0;go_enter Tryz.func247,Tryz.ntmps247
  go_upto_region 1 with (fail)
  refine aG (G:=fun w0=>Code.wp _ _ _ _ w0) ?_;intro w1 hb1 ho1 hs1;obtain⟨b1,hbe1⟩:∃ b,w.heap.size=b:=⟨_,rfl⟩;rw[hbe1] at hb1;rw[hbe1];have HN:Hid (w.heap.size<=b1):=aA (by omega);have B1:=aA hb1;have OO:=aA ho1;clear hb1 hs1 hbe1;replace OO:=aA (ho1.weak (S':=[b]) (by simp));replace FF:=aA (ho1.got FF.out (by simp));clear ho1;have k1:=uY B1.out;have c33:w1.cell? ⟨b,33,none⟩=some (.int .i64 (n:Int)):=by rw[aC FF.out,List.getElem?_toArray];exact iA HL.out.1
  have lb:=aF FF.out;go_wp2_with fail
  refine (HC.out _).mono ?_;rintro e w2 ⟨rfl,ho⟩;clear k1 c33 lb;replace OO:=aA (OO.out.aB ho);replace B1:=aA (ho.got B1.out (by simp));replace FF:=aA (ho.got FF.out (by simp));clear ho;have k1:=uY B1.out;have c33:w2.cell? ⟨b,33,none⟩=some (.int .i64 (n:Int)):=by rw[aC FF.out,List.getElem?_toArray];exact iA HL.out.1
  have lb:=aF FF.out;go_upto_region 6 with (fail)
  refine aP [0,1,2,3,4,5,6,7,8,9,10,11,12,13,14,15,16,17,18,19,20] [] (by kernel_rfl) (by kernel_rfl) ?_;simp only[bV];iterate 6 (refine wpQuiet_step (fun K hK=>?_);go_simp;refine hK _ ?_;clear hK K)
  repeat (go_big_quiet_step (fail))
  refine wpQuiet_nil ?_;intro w3 hw;have ho:=aN hw;clear hw;clear k1 c33 lb;replace OO:=aA (OO.out.aB ho);replace B1:=aA (ho.got B1.out (by simp));replace FF:=aA (ho.got FF.out (by simp));have k1:=uY B1.out;have c33:w3.cell? ⟨b,33,none⟩=some (.int .i64 (n:Int)):=by rw[aC FF.out,List.getElem?_toArray];exact iA HL.out.1
  have lb:=aF FF.out;clear ho
 rotate_left
 focus
  obtain⟨j,hj,hjl,hx⟩:=Z5 hlast;obtain⟨x1,x2,x3,x4⟩:=x;have d0:decide ((0:Int)<(n:Int))=true:=by simp;omega
  have d0':decide (0<n)=true:=by simp;omega
  have hjw:wrap .i64 ((n:Int)-1)=(j:Int):=by rw[wrap_i64];omega
  have j8:(j:Int)<8:=by omega
  have j8n:j<8:=by omega
  have HXL:Hid (L[j*4+3]? = some (.int .i64 x4)):=aA (by rw[fl_at hT hjl 3 (by omega),hx];rfl);rw[hlast] at HE;dsimp only at HE;by_cases hle:d<=x4
  focus
   obtain rfl:res=(⟨tol,l⟩,12):=by have:=HE.out;simpa [hle] using this
   have q1:decide (d<=x4)=true:=eY hle;clear HE hlast hx hjl hT hI hL;go_enter Tryz.func247,Tryz.ntmps247
   go_upto_region 1 with (fail)
   refine aG (G:=fun w0=>Code.wp _ _ _ _ w0) ?_;intro w1 hb1 ho1 hs1;obtain⟨b1,hbe1⟩:∃ b,w.heap.size=b:=⟨_,rfl⟩;rw[hbe1] at hb1;rw[hbe1];have HN:Hid (w.heap.size<=b1):=aA (by omega);have B1:=aA hb1;have OO:=aA ho1;clear hb1 hs1 hbe1;replace OO:=aA (ho1.weak (S':=[b]) (by simp));replace FF:=aA (ho1.got FF.out (by simp));clear ho1;have k1:=uY B1.out;have c33:w1.cell? ⟨b,33,none⟩=some (.int .i64 (n:Int)):=by rw[aC FF.out,List.getElem?_toArray];exact iA HL.out.1
   have lb:=aF FF.out;go_wp2_with fail
   refine (HC.out _).mono ?_;rintro e w2 ⟨rfl,ho⟩;clear k1 c33 lb;replace OO:=aA (OO.out.aB ho);replace B1:=aA (ho.got B1.out (by simp));replace FF:=aA (ho.got FF.out (by simp));clear ho;have k1:=uY B1.out;have c33:w2.cell? ⟨b,33,none⟩=some (.int .i64 (n:Int)):=by rw[aC FF.out,List.getElem?_toArray];exact iA HL.out.1
   have lb:=aF FF.out;go_upto_region 6 with (fail)
   have cl:w2.cell? ⟨b,1+j*4+3,none⟩=some (.int .i64 x4):=by rw[aC FF.out,List.getElem?_toArray,Nat.add_assoc,<-HXL.out];exact xK HLL.out (by omega)
   refine aP [0,1,2,3,4,5,6,7,8,9,10,11,12,13,14,15,16,17,18,19,20] [] (by kernel_rfl) (by kernel_rfl) ?_;simp only[bV];iterate 6 (refine wpQuiet_step (fun K hK=>?_);go_simp;refine hK _ ?_;clear hK K)
   repeat (go_big_quiet_step (fail))
   refine wpQuiet_nil ?_;intro w3 hw;have ho:=aN hw;clear hw;clear k1 c33 lb;replace OO:=aA (OO.out.aB ho);replace B1:=aA (ho.got B1.out (by simp));replace FF:=aA (ho.got FF.out (by simp));have k1:=uY B1.out;have c33:w3.cell? ⟨b,33,none⟩=some (.int .i64 (n:Int)):=by rw[aC FF.out,List.getElem?_toArray];exact iA HL.out.1
   have lb:=aF FF.out;clear ho;clear cl;go_wp2;go_ret
   exact⟨rfl,FL HL.out.1 HL.out.2.1 HL.out.2.2.1 HL.out.2.2.2 (by rw[hn];exact FF.out),OO.out⟩
  focus
   have q1:decide (d<=x4)=false:=dL hle;by_cases h7:n<8
   rotate_left
   focus
    obtain rfl:n=8:=by omega
    obtain rfl:j=7:=by omega
    obtain rfl:res=(⟨tol,l.drop 1 ++ [⟨a,bb,c,d⟩]⟩,0):=by have:=HE.out;rw[if_pos rfl,if_neg hle] at this;rw[this];unfold wC;rw[if_pos hn]
    have HSH:=aA (WU hL hI hT hn);have hk:(l.drop 1).length=7:=by rw[List.length_drop];omega
    have HP:=aA (GX (s:=⟨a,bb,c,d⟩) HSH.out.1 HSH.out.2.1 HSH.out.2.2 (by omega));have HLS:=aA HSH.out.1
    have HCP:Hid (∀ i v,((L.drop 4).take 28)[i]? = some v->(jU tol L 8 sh la)[5+i]? = some v):=aA (by
     intro i v h;rw[List.getElem?_take] at h;split at h
     ·rw[List.getElem?_drop] at h
      rw[show 5+i=1+(4+i) by omega,xK hL (by omega)];exact h
     ·cases h)
    have HC1:Hid (∀ v∈(L.drop 4).take 28,v.oneCell'=true):=aA (fun v hv=>by
     obtain⟨z,rfl⟩:=hI v (List.mem_of_mem_drop (List.mem_of_mem_take hv));rfl)
    have HCL:Hid (((L.drop 4).take 28).length=28):=aA (by simp;omega)
    have HCE:Hid ((jU tol L 8 sh la).take 1 ++ ((L.drop 4).take 28 ++ (jU tol L 8 sh la).drop (1+28))=jU tol ((L.drop 4).take 28 ++ L.drop 28) 8 sh la):=aA (by
     unfold jU;rw[show 1+28=28+1 from rfl,List.drop_succ_cons,List.drop_append_of_le_length (by omega)];simp[List.append_assoc])
    generalize (L.drop 4).take 28=cp at HCP HC1 HCL HCE HP HSH HLS;obtain⟨LS,hLS⟩:∃ LS,cp ++ L.drop 28=LS:=⟨_,rfl⟩;rw[hLS] at HP HSH HCE HLS;rw[hk] at HP;replace HP:=aA (by simpa only[Nat.reduceMul,Nat.reduceAdd] using HP.out);have HK:=aA hk;clear HE hlast hx hjl hT hI hL h8 hj hLS hjw j8 j8n d0 d0' h7 hk;go_enter Tryz.func247,Tryz.ntmps247
    go_upto_region 1 with (fail)
    refine aG (G:=fun w0=>Code.wp _ _ _ _ w0) ?_;intro w1 hb1 ho1 hs1;obtain⟨b1,hbe1⟩:∃ b,w.heap.size=b:=⟨_,rfl⟩;rw[hbe1] at hb1;rw[hbe1];have HN:Hid (w.heap.size<=b1):=aA (by omega);have B1:=aA hb1;have OO:=aA ho1;clear hb1 hs1 hbe1;replace OO:=aA (ho1.weak (S':=[b]) (by simp));replace FF:=aA (ho1.got FF.out (by simp));clear ho1;have k1:=uY B1.out;have c33:w1.cell? ⟨b,33,none⟩=some (.int .i64 8):=by rw[aC FF.out,List.getElem?_toArray];exact iA HL.out.1
    have lb:=aF FF.out;go_wp2_with fail
    refine (HC.out _).mono ?_;rintro e w2 ⟨rfl,ho⟩;clear k1 c33 lb;replace OO:=aA (OO.out.aB ho);replace B1:=aA (ho.got B1.out (by simp));replace FF:=aA (ho.got FF.out (by simp));clear ho;have k1:=uY B1.out;have c33:w2.cell? ⟨b,33,none⟩=some (.int .i64 8):=by rw[aC FF.out,List.getElem?_toArray];exact iA HL.out.1
    have lb:=aF FF.out;go_upto_region 6 with (fail)
    have cl:w2.cell? ⟨b,32,none⟩=some (.int .i64 x4):=by rw[aC FF.out,List.getElem?_toArray,<-HXL.out];exact xK (j:=31) HLL.out (by omega)
    refine aP [0,1,2,3,4,5,6,7,8,9,10,11,12,13,14,15,16,17,18,19,20] [] (by kernel_rfl) (by kernel_rfl) ?_;simp only[bV];iterate 6 (refine wpQuiet_step (fun K hK=>?_);go_simp;refine hK _ ?_;clear hK K)
    repeat (go_big_quiet_step (fail))
    refine wpQuiet_nil ?_;intro w3 hw;have ho:=aN hw;clear hw;clear k1 c33 lb;replace OO:=aA (OO.out.aB ho);replace B1:=aA (ho.got B1.out (by simp));replace FF:=aA (ho.got FF.out (by simp));have k1:=uY B1.out;have c33:w3.cell? ⟨b,33,none⟩=some (.int .i64 8):=by rw[aC FF.out,List.getElem?_toArray];exact iA HL.out.1
    have lb:=aF FF.out;clear ho;clear cl;go_upto_region 9 with (fail)
    refine aP [0,1,2,3,4,5,6,7] [8] (by kernel_rfl) (by kernel_rfl) ?_;simp only[bV];iterate 8 (refine wpQuiet_step (fun K hK=>?_);go_simp;refine hK _ ?_;clear hK K)
    refine wpQuiet_nil ?_;intro w4 hw;have ho:=aN hw;clear hw;clear k1 c33 lb;replace OO:=aA (OO.out.aB ho);replace B1:=aA (ho.got B1.out (by simp));replace FF:=aA (ho.got FF.out (by simp));have k1:=uY B1.out;have c33:w4.cell? ⟨b,33,none⟩=some (.int .i64 8):=by rw[aC FF.out,List.getElem?_toArray];exact iA HL.out.1
    have lb:=aF FF.out;clear ho;refine wQ rfl _ _ 415 415 rfl 222 4 7 Tryz.underlying415 (by kernel_rfl) b 1 8 8 ⟨b,5,none⟩ 7 7 rfl rfl _ _ FF.out cp (by decide) HCL.out (fun i v h=>by rw[addr_add,aC FF.out,List.getElem?_toArray];exact HCP.out i v h) (by rw[HCL.out,List.size_toArray,kQ HLL.out];omega) HC1.out ?_;refine kZ (G:=fun w0=>wpList _ _ _ _ _ w0) (R:=fun w5=>w5.heap[b]? = some (.cells (jU tol LS 8 sh la).toArray 225 (0,0))/\w5.heap[b1]? = w4.heap[b1]? /\ Oy [b] w w5) ?_ ?_
    ·refine⟨?_,setRow_other _ _ _ _ (by have:=HN.out;have:=HBL.out;omega),OO.out.trans (S':=[b]) ⟨rfl,rfl,rfl,by simp[World.setRow],fun q _ hq=>setRow_other _ _ q _ (fun e=>hq (by simp[e]))⟩ (by simp)⟩
     have hse:=HCE.out;rw[HCL.out];have h5:=setRow_heap w4 b _ ((jU tol L 8 sh la).take 1 ++ (cp ++ (jU tol L 8 sh la).drop (1+28))).toArray _ _ FF.out;rw[HCE.out] at h5;rw[<-HCE.out] at h5 |-;exact h5
    rintro w5 ⟨hf2,hb2,ho2⟩;clear k1 c33 lb;replace B1:=aA (hb2.trans B1.out);replace FF:=aA hf2;replace OO:=aA ho2;clear hf2 hb2 ho2 HCP HC1 HCL HCE;have c33:w5.cell? ⟨b,33,none⟩=some (.int .i64 8):=by rw[aC FF.out,List.getElem?_toArray];exact iA HLS.out
    have z33:=aM FF.out 33;have lb:=aF FF.out;go_upto_region 11 with (fail)
    refine kZ (G:=fun w0=>Code.wp _ _ _ _ w0) (R:=fun w6=>w6.heap[b]? = some (.cells (jU tol LS 7 sh la).toArray 225 (0,0))/\w6.heap[b1]? = w5.heap[b1]? /\ Oy [b] w w6) ⟨CW HLS.out FF.out,(iQ _ B1.out (by have:=HN.out;have:=HBL.out;simp only;omega)).trans B1.out.symm,OO.out.setCell (.inl (by simp)) _⟩ ?_;rintro w6 ⟨hf2,hb2,ho2⟩;clear c33 z33 lb;replace B1:=aA (hb2.trans B1.out);replace FF:=aA hf2;replace OO:=aA ho2;clear hf2 hb2 ho2;have k1:=uY B1.out;have c33:w6.cell? ⟨b,33,none⟩=some (.int .i64 7):=by rw[aC FF.out,List.getElem?_toArray];exact iA HLS.out
    have lb:=aF FF.out;refine aP [0,1,2,3,4,5,6,7,8] [9] (by kernel_rfl) (by kernel_rfl) ?_;simp only[bV];iterate 9 (refine wpQuiet_step (fun K hK=>?_);go_simp;refine hK _ ?_;clear hK K)
    refine wpQuiet_nil ?_;intro w7 hw;have ho:=aN hw;clear hw;clear k1 c33 lb;replace OO:=aA (OO.out.aB ho);replace B1:=aA (ho.got B1.out (by simp));replace FF:=aA (ho.got FF.out (by simp));have k1:=uY B1.out;have c33:w7.cell? ⟨b,33,none⟩=some (.int .i64 7):=by rw[aC FF.out,List.getElem?_toArray];exact iA HLS.out
    have lb:=aF FF.out;clear ho;have zf:∀ o,w7.frozen? ⟨b,o,none⟩=false:=fun o=>aM FF.out o;obtain⟨v0,s0⟩:∃ v,w7.cell? ⟨b,29,none⟩=some v:=by rw[aC FF.out,List.getElem?_toArray];exact⟨_,getElem?_eq_getElem (by rw[kQ HLS.out];omega)⟩
    obtain⟨v1,s1⟩:∃ v,w7.cell? ⟨b,30,none⟩=some v:=by rw[aC FF.out,List.getElem?_toArray];exact⟨_,getElem?_eq_getElem (by rw[kQ HLS.out];omega)⟩
    obtain⟨v2,s2⟩:∃ v,w7.cell? ⟨b,31,none⟩=some v:=by rw[aC FF.out,List.getElem?_toArray];exact⟨_,getElem?_eq_getElem (by rw[kQ HLS.out];omega)⟩
    obtain⟨v3,s3⟩:∃ v,w7.cell? ⟨b,32,none⟩=some v:=by rw[aC FF.out,List.getElem?_toArray];exact⟨_,getElem?_eq_getElem (by rw[kQ HLS.out];omega)⟩
    go_upto_region 12 with (fail)
    refine kZ (G:=fun w0=>Code.wp _ _ _ _ w0) (R:=fun w8=>w8.heap[b]? = some (.cells (jU tol (LS.take 28 ++ jX ⟨a,bb,c,d⟩ ++ LS.drop 32) 7 sh la).toArray 225 (0,0))/\Oy [b] w w8) ⟨UY HLS.out FF.out,(((OO.out.setCell (.inl (by simp)) _).setCell (.inl (by simp)) _).setCell (.inl (by simp)) _).setCell (.inl (by simp)) _⟩ ?_;rintro w8 ⟨hf2,ho2⟩;clear k1 c33 lb;clear zf s0 s1 s2 s3;replace FF:=aA hf2;replace OO:=aA ho2;clear hf2 ho2 B1;have c33:w8.cell? ⟨b,33,none⟩=some (.int .i64 (7:Int)):=by rw[aC FF.out,List.getElem?_toArray];exact iA HP.out.1
    have z33:=aM FF.out 33;have lb:=aF FF.out;go_upto_region 13 with (fail)
    refine kZ (G:=fun w0=>Code.wp _ _ _ _ w0) (R:=fun w9=>w9.heap[b]? = some (.cells (jU tol (LS.take 28 ++ jX ⟨a,bb,c,d⟩ ++ LS.drop 32) ((7:Int)+1) sh la).toArray 225 (0,0))/\Oy [b] w w9) ⟨CW HP.out.1 FF.out,OO.out.setCell (.inl (by simp)) _⟩ ?_;rintro w9 ⟨hf2,ho2⟩;clear c33 z33 lb;replace FF:=aA hf2;replace OO:=aA ho2;clear hf2 ho2;go_wp2;go_ret
    exact⟨rfl,FL HP.out.1 HP.out.2.1 HP.out.2.2 (by rw[length_append,HK.out];exact Nat.le_refl 8) (by rw[show (((l.drop 1 ++ [(⟨a,bb,c,d⟩:iU)]).length:Nat):Int)=7+1 by rw[length_append,HK.out];rfl];exact FF.out),OO.out⟩
  rotate_left
  obtain rfl:res=(⟨tol,l ++ [⟨a,bb,c,d⟩]⟩,0):=by have:=HE.out;rw[if_pos rfl,if_neg hle] at this;rw[this];unfold wC;rw[if_neg (by dsimp only;omega)]
  have HP:=aA (GX (s:=⟨a,bb,c,d⟩) hL hI hT (by omega));have n8:((n:Int) == 8)=false:=by rw[beq_eq_false_iff_ne];omega
  have n8i:(n:Int)<8:=by omega
  have hnw:wrap .i64 ((n:Int)+1)=(n:Int)+1:=by rw[wrap_i64];omega
  rw[hn] at HP;have HN:=aA hn;clear HE hlast hx hjl hT hI hL h8 hj;go_enter Tryz.func247,Tryz.ntmps247
  go_upto_region 1 with (fail)
  refine aG (G:=fun w0=>Code.wp _ _ _ _ w0) ?_;intro w1 hb1 ho1 hs1;obtain⟨b1,hbe1⟩:∃ b,w.heap.size=b:=⟨_,rfl⟩;rw[hbe1] at hb1;rw[hbe1];have HN:Hid (w.heap.size<=b1):=aA (by omega);have B1:=aA hb1;have OO:=aA ho1;clear hb1 hs1 hbe1;replace OO:=aA (ho1.weak (S':=[b]) (by simp));replace FF:=aA (ho1.got FF.out (by simp));clear ho1;have k1:=uY B1.out;have c33:w1.cell? ⟨b,33,none⟩=some (.int .i64 (n:Int)):=by rw[aC FF.out,List.getElem?_toArray];exact iA HL.out.1
  have lb:=aF FF.out;go_wp2_with fail
  refine (HC.out _).mono ?_;rintro e w2 ⟨rfl,ho⟩;clear k1 c33 lb;replace OO:=aA (OO.out.aB ho);replace B1:=aA (ho.got B1.out (by simp));replace FF:=aA (ho.got FF.out (by simp));clear ho;have k1:=uY B1.out;have c33:w2.cell? ⟨b,33,none⟩=some (.int .i64 (n:Int)):=by rw[aC FF.out,List.getElem?_toArray];exact iA HL.out.1
  have lb:=aF FF.out;go_upto_region 6 with (fail)
  have cl:w2.cell? ⟨b,1+j*4+3,none⟩=some (.int .i64 x4):=by rw[aC FF.out,List.getElem?_toArray,Nat.add_assoc,<-HXL.out];exact xK HLL.out (by omega)
  refine aP [0,1,2,3,4,5,6,7,8,9,10,11,12,13,14,15,16,17,18,19,20] [] (by kernel_rfl) (by kernel_rfl) ?_;simp only[bV];iterate 6 (refine wpQuiet_step (fun K hK=>?_);go_simp;refine hK _ ?_;clear hK K)
  repeat (go_big_quiet_step (fail))
  refine wpQuiet_nil ?_;intro w3 hw;have ho:=aN hw;clear hw;clear k1 c33 lb;replace OO:=aA (OO.out.aB ho);replace B1:=aA (ho.got B1.out (by simp));replace FF:=aA (ho.got FF.out (by simp));have k1:=uY B1.out;have c33:w3.cell? ⟨b,33,none⟩=some (.int .i64 (n:Int)):=by rw[aC FF.out,List.getElem?_toArray];exact iA HL.out.1
  have lb:=aF FF.out;clear ho;clear cl hjw j8
 rotate_left
 all_goals
  go_upto_region 11 with (fail)
  refine aP [0,1,2,3,4,5,6,7,8] [9] (by kernel_rfl) (by kernel_rfl) ?_;simp only[bV];iterate 9 (refine wpQuiet_step (fun K hK=>?_);go_simp;refine hK _ ?_;clear hK K)
  refine wpQuiet_nil ?_;intro w4 hw;have ho:=aN hw;clear hw;clear k1 c33 lb;replace OO:=aA (OO.out.aB ho);replace B1:=aA (ho.got B1.out (by simp));replace FF:=aA (ho.got FF.out (by simp));have k1:=uY B1.out;have c33:w4.cell? ⟨b,33,none⟩=some (.int .i64 (n:Int)):=by rw[aC FF.out,List.getElem?_toArray];exact iA HL.out.1
  have lb:=aF FF.out;clear ho;have zf:∀ o,w4.frozen? ⟨b,o,none⟩=false:=fun o=>aM FF.out o;obtain⟨v0,s0⟩:∃ v,w4.cell? ⟨b,1+n*4,none⟩=some v:=by rw[aC FF.out,List.getElem?_toArray];exact⟨_,getElem?_eq_getElem (by rw[kQ HLL.out];omega)⟩
  obtain⟨v1,s1⟩:∃ v,w4.cell? ⟨b,1+n*4+1,none⟩=some v:=by rw[aC FF.out,List.getElem?_toArray];exact⟨_,getElem?_eq_getElem (by rw[kQ HLL.out];omega)⟩
  obtain⟨v2,s2⟩:∃ v,w4.cell? ⟨b,1+n*4+2,none⟩=some v:=by rw[aC FF.out,List.getElem?_toArray];exact⟨_,getElem?_eq_getElem (by rw[kQ HLL.out];omega)⟩
  obtain⟨v3,s3⟩:∃ v,w4.cell? ⟨b,1+n*4+3,none⟩=some v:=by rw[aC FF.out,List.getElem?_toArray];exact⟨_,getElem?_eq_getElem (by rw[kQ HLL.out];omega)⟩
  go_upto_region 12 with (fail)
  refine kZ (G:=fun w0=>Code.wp _ _ _ _ w0) (R:=fun w5=>w5.heap[b]? = some (.cells (jU tol (L.take (n*4) ++ jX ⟨a,bb,c,d⟩ ++ L.drop (n*4+4)) n sh la).toArray 225 (0,0))/\Oy [b] w w5) ⟨K5 HLL.out (by omega) FF.out,(((OO.out.setCell (.inl (by simp)) _).setCell (.inl (by simp)) _).setCell (.inl (by simp)) _).setCell (.inl (by simp)) _⟩ ?_;rintro w5 ⟨hf2,ho2⟩;clear k1 c33 lb;clear zf s0 s1 s2 s3;replace FF:=aA hf2;replace OO:=aA ho2;clear hf2 ho2 B1;have c33:w5.cell? ⟨b,33,none⟩=some (.int .i64 (n:Int)):=by rw[aC FF.out,List.getElem?_toArray];exact iA HP.out.1
  have z33:=aM FF.out 33;have lb:=aF FF.out;go_upto_region 13 with (fail)
  refine kZ (G:=fun w0=>Code.wp _ _ _ _ w0) (R:=fun w6=>w6.heap[b]? = some (.cells (jU tol (L.take (n*4) ++ jX ⟨a,bb,c,d⟩ ++ L.drop (n*4+4)) ((n:Int)+1) sh la).toArray 225 (0,0))/\Oy [b] w w6) ⟨CW HP.out.1 FF.out,OO.out.setCell (.inl (by simp)) _⟩ ?_;rintro w6 ⟨hf2,ho2⟩;clear c33 z33 lb;replace FF:=aA hf2;replace OO:=aA ho2;clear hf2 ho2;go_wp2;go_ret
  exact⟨rfl,FL HP.out.1 HP.out.2.1 HP.out.2.2 (by simp only[length_append,length_cons,length_nil];omega) (by rw[show ((l ++ [(⟨a,bb,c,d⟩:iU)]).length:Int)=(n:Int)+1 by simp[hn]];have:=FF.out;rw[<-hn] at this |-;exact this),OO.out⟩
end
section
open Go.RowKit
def N7:Iv:=⟨-4503599627370496,4503599627370496⟩
def tY (x:Iv):Iv:=(vW x N7).getD N7
def lZ (x:Iv) (fr to tol:Int):Iv:=if (wJ x (to-fr) tol).2=0 then tY (wJ x (to-fr) tol).1 else N7
theorem gK (n lo hi:Int) (w:World) :
  Calls Tryz.prog 61 #[.int .i64 n,.int .i64 lo,.int .i64 hi] w fun e w'=>e=.returned (.bool (!bZ n lo hi))/\Oy [] w w':=by
 by_cases h1:n<lo
 focus
  have a1:decide (n<lo)=true:=eY h1;rw[show bZ n lo hi=false from by rw[oG];omega]
 rotate_left
 focus
  have a1:decide (n<lo)=false:=dL h1;by_cases h2:hi<n
  focus
   have a2:decide (hi<n)=true:=eY h2;rw[show bZ n lo hi=false from by rw[oG];omega]
  rotate_left
  focus
   have a2:decide (hi<n)=false:=dL h2;rw[show bZ n lo hi=true from by rw[aY];omega]
  rotate_left
 rotate_left 2
 all_goals
  go_enter Tryz.func61,Tryz.ntmps61
  have OO:=aA (aR [] w);go_wp2;go_ret
  exact⟨rfl,OO.out⟩
theorem H8  (w:World) :
  Calls Tryz.prog 66 #[] w fun e w'=>e=.returned (dV N7)/\Oy [] w w':=by
 go_enter Tryz.func66,Tryz.ntmps66
 go_upto_region 1 with (fail)
 refine aG (G:=fun w0=>Code.wp _ _ _ _ w0) ?_;intro w1 hb1 ho1 hs1;obtain⟨b1,hbe1⟩:∃ b,w.heap.size=b:=⟨_,rfl⟩;rw[hbe1] at hb1;rw[hbe1];have HN:Hid (w.heap.size<=b1):=aA (by omega);have B1:=aA hb1;have OO:=aA ho1;clear hb1 hs1 hbe1;clear ho1;have k1:=c_2 B1.out;go_wp2;have HD:=aH (o:=1) (.int .i64 4503599627370496) (aH (o:=0) (.int .i64 (-4503599627370496)) (B1.out));have e0:=aC HD 0;have e1:=aC HD 1;have le:=aF HD;refine bodyPost_ret (v:=.agg #[.int .i64 (-4503599627370496),.int .i64 4503599627370496]) (by simp[results,Tryz.results66,go_sem,e0,e1]) rfl ⟨rfl,((OO.out.setCell (.inr HN.out) _).setCell (.inr HN.out) _)⟩
theorem pClip (x:Iv) (w:World) :
  Calls Tryz.prog 210 #[dV x] w fun e w'=>e=.returned (dV (tY x))/\Oy [] w w':=by
 have HEV:=aA (fun w'=>H8 w');have HMT:=aA (fun w'=>pMeet x N7 w');obtain⟨res,HE⟩:∃ zz,Hid (tY x=zz):=⟨_,aA rfl⟩;rw[HE.out];unfold tY at HE;generalize vW x N7=mo at HMT HE;obtain⟨x1,x2⟩:=x;simp only[dV,N7] at HEV HMT |-;rcases mo with _|⟨y1,y2⟩
 focus
  skip
 rotate_left 1
 focus
  skip
 all_goals
  simp only[Q7] at HMT;first|(simp only[Option.getD_none,N7] at HE)|(simp only[Option.getD_some] at HE)
  obtain rfl:=HE.out;clear HE;have m:=bJ w [];have k:=m.zK;go_enter Tryz.func210,Tryz.ntmps210
  go_wp2_with (first|((with_reducible first|refine cM (HEV.out _) ?_|refine cU ?_|refine wU ?_);clear k m;intro w m k)|((with_reducible refine rA (id:=1) [0,1,2,3,4] [5] 6 [7,8] (by kernel_rfl) (by kernel_rfl) ?_);simp only[bV];(repeat (first|(refine aQ (fun K hK=>?_);go_simp;refine hK _ ?_;clear hK K)|(refine cG (by kernel_rfl) ⟨_,_,_,?_,fun w' o=>HEV.out w',?_⟩;(focus (intro w;go_simp;done)))|(refine cG (by kernel_rfl) ⟨_,_,_,?_,fun w' o=>HMT.out w',?_⟩;(focus (intro w;go_simp;done)))));refine aS ?_;(repeat (refine aJ (fun K hK=>?_);go_simp;refine hK _ ?_;clear hK K));refine aK ?_;clear k m;intro w o m k;refine aD rfl ?_;go_wp2;simp only[bA];refine⟨o.alloc _,tW ?_⟩;clear o;clear k m;intro w m k;unfold aV;refine aD rfl ?_;go_wp2;simp only[bA];refine tW ?_;clear k m;intro w m k;unfold aV;refine aD rfl ?_;go_wp2;simp only[bA];refine tW ?_;clear k m;intro w m k;unfold aV)|((with_reducible refine lE (fun w o g k K hK=>⟨rfl,?_⟩));simp[results,Tryz.results210,go_sem,k];refine hK _ ?_;exact⟨rfl,o⟩))
theorem ZF {w:World} {bc:Nat} {tol:Int} (ht:w.cell? ⟨bc,1,none⟩=some (.int .i64 tol)) (hlt:bc<w.heap.size) (x:Iv) (fr to:Int) (h0: -9223372036854775808<=to-fr) (h1:to-fr<=9223372036854775807) :
  Calls Tryz.prog 200 #[.pointer (some ⟨bc,0,none⟩),dV x,.int .i64 fr,.int .i64 to] w fun e w'=>e=.returned (dV (lZ x fr to tol))/\Oy [] w w':=by
 have HX:=aA (fun w' (o:Oy [] w w')=>And.intro (Nat.lt_of_lt_of_le hlt o.size) ((o.cell hlt (by simp)).trans ht));have HA:=aA (fun w'=>pAge x (to-fr) tol w');have HEV:=aA (fun w'=>H8 w');have HCL:=aA (fun w'=>pClip (wJ x (to-fr) tol).1 w');have r1:wrap .i64 (to-fr)=to-fr:=by rw[wrap_i64];omega
 obtain⟨res,HE⟩:∃ zz,Hid (lZ x fr to tol=zz):=⟨_,aA rfl⟩;rw[HE.out];unfold lZ at HE;generalize wJ x (to-fr) tol=y at HA HCL HE;obtain⟨⟨yl,yh⟩,er⟩:=y;obtain⟨xl,xh⟩:=x;dsimp only at HA HCL HE;generalize tY ⟨yl,yh⟩=z at HCL HE;obtain⟨zl,zh⟩:=z;generalize N7=ev at HEV HE;obtain⟨el,eh⟩:=ev;simp only[dV] at HA HCL HEV |-;clear h0 h1;obtain⟨wo,rfl⟩:∃ wo:World,wo=w:=⟨_,rfl⟩;by_cases hne:er=0
 focus
  subst hne;rw[if_pos rfl] at HE
 rotate_left 1
 focus
  rw[if_neg hne] at HE;have q1:(er != 0)=true:=by simpa using hne
 all_goals
  obtain rfl:=HE.out;clear HE;have m:=bJ wo [];have k:=m.zK;have c:=HX.out wo (aR _ _);go_enter Tryz.func200,Tryz.ntmps200
  go_wp2_with (first|((with_reducible first|refine cU ?_|refine cM (HEV.out _) ?_|refine cM (HCL.out _) ?_|refine wU ?_);clear k m c;intro w m k;have c:=HX.out w m.zO)|((with_reducible refine rA (id:=1) [0,1,2,3,4,5,6,7,8,9,10,11] [12] 13 [14,15] (by kernel_rfl) (by kernel_rfl) ?_);simp only[bV];(repeat (first|(refine aQ (fun K hK=>?_);go_simp;refine hK _ ?_;clear hK K)|(refine cG (by kernel_rfl) ⟨_,_,_,?_,fun w' o=>HA.out w',?_⟩;(focus (intro w;go_simp;done)))));refine aS ?_;(repeat (refine aJ (fun K hK=>?_);go_simp;refine hK _ ?_;clear hK K));refine aK ?_;clear k m;intro w o m k;refine aD rfl ?_;go_wp2;simp only[bA];refine⟨o.alloc _,tW ?_⟩;clear o;clear k m c;intro w m k;have c:=HX.out w m.zO;unfold aV;refine aD rfl ?_;go_wp2;simp only[bA];refine tW ?_;clear k m c;intro w m k;have c:=HX.out w m.zO;unfold aV;refine aD rfl ?_;go_wp2;simp only[bA];refine tW ?_;clear k m c;intro w m k;have c:=HX.out w m.zO;unfold aV)|((with_reducible refine lE (fun w o g k K hK=>⟨rfl,?_⟩));simp[results,Tryz.results200,go_sem,k];refine hK _ ?_;exact⟨rfl,o⟩))
end
section
open Go.RowKit
structure Cf where
 servers:Int
 tol:Int
 prec:Int
 keep:Int
 sv:Sc
 rate:Int
 mn:Int
 mx:Int
deriving DecidableEq,Inhabited
def JB (c:Cf):Value:=.agg #[.int .i64 c.servers,.int .i64 c.tol,.int .i64 c.prec,.int .i64 c.keep,.int .i64 c.sv.kp,.int .i64 c.sv.ki,.int .i64 c.sv.lim,.int .i64 c.sv.sf,.int .i64 c.sv.sl,.int .i64 c.rate,.int .i64 c.mn,.int .i64 c.mx]
def eZ (c:Cf):Int:=
 if bZ c.servers 1 12 && (bZ c.tol 0 500000 && (bZ c.prec 1 1000000000 && bZ c.keep 1 12)) then
  (if tQ c.sv=0 then (if bZ c.rate 1 500000 && (bZ c.mn 3 17 && bZ c.mx 3 17) then (if c.mx<c.mn then 12 else 0) else 3) else tQ c.sv)
 else 3
structure Sr where
 sa:As
 fl:Fl
 hr:Bool
 hp:Bool
 rc:MC
 sent:Int
 hdr:Np
 rt:FX
 prf:Iv
 pat:Int
def UO (r p:Bool):Int:=(if r then 1 else 0)+(if p then 2 else 0)
structure Cl where
 cf:Cf
 ck:Ck
 sv:Sv
 srcs:List Sr
 last:Int
 own:Iv
 owned:Int
 rt:FX
 st:Bool
 rd:Int
structure Pl where
 bc:Nat
 bk:Nat
 bv:Nat
 g:Nat
 cap:Nat
 ps:List (Nat × Nat × Nat)
def wZ (b:Nat):List Value:=[.pointer (some ⟨b,0,none⟩)]
def yK (w:World) (b a f:Nat) (s:Sr):Prop:=w.heap[b]? = some (.cells #[.pointer (some ⟨a,0,none⟩),.pointer (some ⟨f,0,none⟩),.int .i64 (UO s.hr s.hp),.int .i64 s.rc.bits,.int .i64 s.rc.poll,.int .i64 s.rc.mn,.int .i64 s.rc.mx,.int .i64 s.rc.cnt,.int .i64 s.sent,.int .i64 s.hdr.leap,.int .i64 s.hdr.ver,.int .i64 s.hdr.mode,.int .i64 s.hdr.strat,.int .i64 s.hdr.poll,.int .i64 s.hdr.prec,.int .u32 s.hdr.rdel,.int .u32 s.hdr.rdsp,.int .u32 s.hdr.rid,.int .u64 s.hdr.ref,.int .u64 s.hdr.org,.int .u64 s.hdr.rcv,.int .u64 s.hdr.xmt,.int .i64 s.rt.str,.int .i64 s.rt.dly,.int .i64 s.rt.dsp,.int .u32 s.rt.ref,.int .i64 s.prf.lo,.int .i64 s.prf.hi,.int .i64 s.pat] 187 (0,0))
structure tJ (w:World) (p:Nat × Nat × Nat) (s:Sr):Prop where
 b:yK w p.1 p.2.1 p.2.2 s
 a:uW w p.2.1 s.sa
 f:jW w p.2.2 s.fl
def Pl.all (P:Pl):List Nat:=P.bc::P.bk::P.bv::P.g::P.ps.flatMap fun p=>[p.1,p.2.1,p.2.2]
def mW (w:World) (P:Pl) (c:Cl):Prop:=w.heap[P.bc]? = some (.cells #[.int .i64 c.cf.servers,.int .i64 c.cf.tol,.int .i64 c.cf.prec,.int .i64 c.cf.keep,.int .i64 c.cf.sv.kp,.int .i64 c.cf.sv.ki,.int .i64 c.cf.sv.lim,.int .i64 c.cf.sv.sf,.int .i64 c.cf.sv.sl,.int .i64 c.cf.rate,.int .i64 c.cf.mn,.int .i64 c.cf.mx,.pointer (some ⟨P.bk,0,none⟩),.pointer (some ⟨P.bv,0,none⟩),.slice (some ⟨P.g,0,none⟩) P.ps.length P.cap,.int .i64 c.last,.int .i64 c.own.lo,.int .i64 c.own.hi,.int .i64 c.owned,.int .i64 c.rt.str,.int .i64 c.rt.dly,.int .i64 c.rt.dsp,.int .u32 c.rt.ref,.bool c.st,.int .i64 c.rd] 176 (0,0))
structure bP (w:World) (P:Pl) (c:Cl):Prop where
 cl:mW w P c
 ck:kT w P.bk c.ck
 sv:mH w P.bv c.sv
 row:aO wZ 177 1 w P.g P.cap (P.ps.map (·.1))
 len:P.ps.length=c.srcs.length
 src:∀ i (h:i<P.ps.length) (h':i<c.srcs.length),tJ w P.ps[i] c.srcs[i]
 nd:P.all.Nodup
 lt:∀ b∈P.all,b<w.heap.size
theorem tJ.kept {w w':World} {p:Nat × Nat × Nat} {s:Sr} {S:List Nat} (h:tJ w p s) (ho:Oy S w w') (h1:p.1 ∉ S) (h2:p.2.1 ∉ S) (h3:p.2.2 ∉ S):tJ w' p s:=
 ⟨ho.got h.b h1,h.a.kept ho h2,h.f.kept ho h3⟩
theorem bP.kept {w w':World} {P:Pl} {c:Cl} (h:bP w P c) (ho:Oy [] w w'):bP w' P c:=
 ⟨ho.got h.cl (by simp),ho.got h.ck (by simp),ho.got h.sv (by simp),h.row.kept ho (by simp),h.len,fun i h1 h2=>(h.src i h1 h2).kept ho (by simp) (by simp) (by simp),h.nd,fun b hb=>Nat.lt_of_lt_of_le (h.lt b hb) ho.size⟩
theorem QW (c:Cf) (w:World) :
  Calls Tryz.prog 38 #[JB c] w fun e w'=>e=.returned (.int .i64 (eZ c))/\Oy [] w w':=by
 obtain⟨sr,tl,pr,kp,⟨sk,si,sm,sf,sl⟩,ra,mn,mx⟩:=c;obtain⟨res,HE⟩:∃ r,Hid (eZ ⟨sr,tl,pr,kp,⟨sk,si,sm,sf,sl⟩,ra,mn,mx⟩=r):=⟨_,aA rfl⟩;rw[HE.out];unfold eZ at HE;dsimp only at HE;have HS:=aA (fun w'=>YD ⟨sk,si,sm,sf,sl⟩ w');generalize tQ ⟨sk,si,sm,sf,sl⟩=se at HS HE;unfold scV at HS;dsimp only at HS;have H1:=aA (fun w'=>gK sr 1 12 w');generalize bZ sr 1 12=b1 at H1 HE;have H2:=aA (fun w'=>gK tl 0 500000 w');generalize bZ tl 0 500000=b2 at H2 HE;have H3:=aA (fun w'=>gK pr 1 1000000000 w');generalize bZ pr 1 1000000000=b3 at H3 HE;have H4:=aA (fun w'=>gK kp 1 12 w');generalize bZ kp 1 12=b4 at H4 HE;have H5:=aA (fun w'=>gK ra 1 500000 w');generalize bZ ra 1 500000=b5 at H5 HE;have H6:=aA (fun w'=>gK mn 3 17 w');generalize bZ mn 3 17=b6 at H6 HE;have H7:=aA (fun w'=>gK mx 3 17 w');generalize bZ mx 3 17=b7 at H7 HE;unfold JB;dsimp only;have m:=bJ w [];have k:=m.zK;go_enter Tryz.func38,Tryz.ntmps38
 go_wp2_with (first|((with_reducible first|refine cM (HS.out _) ?_|refine cM (H1.out _) ?_|refine cM (H2.out _) ?_|refine cM (H3.out _) ?_|refine cM (H4.out _) ?_|refine cM (H5.out _) ?_|refine cM (H6.out _) ?_|refine cM (H7.out _) ?_|refine wU ?_);clear k m;intro w m k)|((with_reducible refine lE (fun w o g k K hK=>⟨rfl,?_⟩));simp[results,Tryz.results38,go_sem];refine hK _ ?_;clear hK K k;rw[<-HE.out];(go_tidy;grind)))
def aZ (c:Cl) (raw:Int):Int × Int:=if (eP c.ck raw).2=0 then (if raw<c.last then (0,12) else eP c.ck raw) else (0,(eP c.ck raw).2)
theorem CB {w:World} {P:Pl} {c:Cl} (h:bP w P c) (hok:jE c.ck) (raw:Int) (h0: -9223372036854775808<=raw) (h1:raw<=9223372036854775807) :
  Calls Tryz.prog 152 #[.pointer (some ⟨P.bc,0,none⟩),.int .i64 raw] w fun e w'=>e=.returned (.tuple #[.int .i64 (aZ c raw).1,.int .i64 (aZ c raw).2])/\Oy [] w w':=by
 have HN:=aA (fun w' (ho:Oy [] w w')=>ZE (ho.got h.ck (by simp)) hok raw h0 h1);have hl:=h.cl;unfold mW at hl;have HE:Hid (aZ c raw=if (eP c.ck raw).2=0 then (if raw<c.last then (0,12) else eP c.ck raw) else (0,(eP c.ck raw).2)):=aA rfl;generalize aZ c raw=res at HE |-;have HXN:Hid (∃ x,x=eP c.ck raw):=aA ⟨_,rfl⟩;generalize eP c.ck raw=nn at HE HN;obtain⟨nv,ne⟩:=nn;dsimp only at HE HN;by_cases hz:ne=0
 focus
  subst hz;by_cases hlt:raw<c.last
  focus
   have d1:decide (raw<c.last)=true:=eY hlt;obtain rfl:res=(0,12):=by have:=HE.out;simpa [hlt] using this
  rotate_left
  focus
   have d1:decide (raw<c.last)=false:=dL hlt;obtain rfl:res=(nv,0):=by have:=HE.out;simpa [hlt] using this
  rotate_left
  all_goals clear HE
 rotate_left 2
 focus
  have q1:(ne != 0)=true:=by simpa using hz
  obtain rfl:res=(0,ne):=by have:=HE.out;simpa [hz] using this
  clear HE hz
 rotate_left
 all_goals
  go_enter Tryz.func152,Tryz.ntmps152
  have OO:=aA (aR [] w);have B1:=aA hl;have k1:=nZ B1.out;go_wp2_with fail
  refine (HN.out _ (aR [] w)).mono ?_;rintro e w2 ⟨rfl,ho⟩;clear k1;replace OO:=aA (OO.out.aB ho);replace B1:=aA (ho.got B1.out (by simp));clear ho;have k1:=nZ B1.out;go_wp2;go_ret2;exact⟨rfl,OO.out⟩
end
section
open Go.RowKit
section
variable {α:Type} {enc:α->List Value} {e:TypeId} {s:Nat}
theorem yO {P:Program} {w:World} {B:Nat} {ops:Array Oper} {rest:List Oper} {o:Oper} {a:Act} {Q:Exit->Act->World->Prop} (hgd:o.guard=none) (sO xO:Operand) (t:TypeId)
  (ho:o.op=.call { callee:=.builtin .append,args:=#[sO,xO],argTypes:=#[t,t] })
  (e:TypeId) (z:Value) (size bytes:Nat) (ht:P.underlying t=some (.slice e)) (hi:(P.info? e).map (fun i=>(i.zero,i.size,i.bytes))=some (some z,size,bytes)) (hzs:z.cells.size=size) (hsz:0<size)
  (hs:∀ x,(enc x).length=size) (h1c:∀ x,∀ u∈enc x,u.oneCell'=true) (l:List α) (v:Value) (hv:a.eval sO=v) (hown:Own enc e size B w v l)
  (ad:Nat) (x:α) (hx:a.eval xO=.slice (some ⟨ad,0,none⟩) 1 1) (hnews:∀ j u,(enc x)[j]? = some u->w.cell? ⟨ad,j,none⟩=some u)
  (hlen:l.length+1<=maxLen) (hby:(l.length+1)*bytes<=140737488355328) (hB:B<=w.heap.size)
  (hK:∀ g' cap' w',Own enc e size B w' (.slice (some ⟨g',0,none⟩) (l.length+1) cap') (l ++ [x])->Oy v.ownBlock.toList w w'->(v.ownBlock=some g'\/g'=w.heap.size)->wpList P ops Q rest (a.put o.dst (.slice (some ⟨g',0,none⟩) (l.length+1) cap')) w'):wpList P ops Q (o::rest) a w:=by
 cases hi':P.info? e with
 | none=>rw[hi'] at hi;simp at hi
 | some i =>
  rw[hi'] at hi;simp only[Option.map_some,Option.some.injEq,Prod.mk.injEq] at hi;obtain⟨z1,z2,z3⟩:=hi;have hadd:∀ j,(⟨ad,0,none⟩:Addr).add j=⟨ad,j,none⟩:=fun j=>by rw[addr_add];simp
  have hfl:(l ++ [x]).flatMap enc=l.flatMap enc ++ enc x:=by simp
  have hblk:w.ownsRow 0 e size v l.length (l.flatMap enc):=by
   rcases hown with ⟨rfl,rfl⟩|⟨g,cap,rfl,_,h3⟩
   ·exact⟨by simp,.inl ⟨rfl,rfl⟩⟩
   ·exact h3.owns hs (Nat.zero_le _)
  refine dB hgd sO xO t ho e i z size bytes ht hi' z1 z2 z3 hzs hsz v l.length (l.flatMap enc) hv hblk ⟨ad,0,none⟩ 1 1 (enc x) hx (by rw[hs];omega) (fun j u hj=>by rw[hadd];exact hnews j u hj) (h1c x) hlen hby (by decide) ?_;intro g' cap' w' hown' ho' hg';rw[<-hfl] at hown';refine hK _ _ _ (.inr ⟨g',cap',by simp,?_,aO.kN hown' (by simp)⟩) ho' hg';rcases hg' with h|rfl
  ·exact Own.wH hown _ (by simpa using h)
  ·exact hB
end
theorem lH (b:Nat):(wZ b).length=1:=rfl
theorem X4 (b:Nat):∀ u∈wZ b,u.oneCell'=true:=fun u hu=>by simp[wZ] at hu;subst hu;rfl
def pU (c:Cf):Sr:=⟨VY,⟨c.tol,[]⟩,false,false,⟨0,c.mn,c.mn,c.mx,0⟩,0,zA,MH,⟨0,0⟩,0⟩
def I8 (c:Cf) (raw time:Int):Cl:=⟨c,⟨raw,time,0,0⟩,⟨c.sv,0,0,0⟩,List.replicate c.servers.toNat (pU c),raw,N7,raw,⟨16,0,0,0⟩,false,0⟩
def clN (c:Cf) (raw:Int) (bk bv:Nat) (v:Value):Array Value:=#[.int .i64 c.servers,.int .i64 c.tol,.int .i64 c.prec,.int .i64 c.keep,.int .i64 c.sv.kp,.int .i64 c.sv.ki,.int .i64 c.sv.lim,.int .i64 c.sv.sf,.int .i64 c.sv.sl,.int .i64 c.rate,.int .i64 c.mn,.int .i64 c.mx,.pointer (some ⟨bk,0,none⟩),.pointer (some ⟨bv,0,none⟩),v,.int .i64 raw,.int .i64 (-4503599627370496),.int .i64 4503599627370496,.int .i64 raw,.int .i64 16,.int .i64 0,.int .i64 0,.int .u32 0,.bool false,.int .i64 0]
def S9 (ps:List (Nat × Nat × Nat)):List Nat:=ps.flatMap fun p=>[p.1,p.2.1,p.2.2]
structure NwS (w:World) (c:Cf) (raw time:Int) (bk bv bc:Nat) (wr:World) (ps:List (Nat × Nat × Nat)) (v:Value):Prop where
 cl:wr.heap[bc]? = some (.cells (clN c raw bk bv v) 176 (0,0))
 ck:kT wr bk ⟨raw,time,0,0⟩
 sv:mH wr bv ⟨c.sv,0,0,0⟩
 own:Own wZ 177 1 w.heap.size wr v (ps.map (·.1))
 src:∀ p∈ps,tJ wr p (pU c)
 nd:(bc::bk::bv::(v.ownBlock.toList ++ S9 ps)).Nodup
 lt:∀ b∈bc::bk::bv::(v.ownBlock.toList ++ S9 ps),w.heap.size<=b/\b<wr.heap.size
 only:Oy [] w wr
theorem A9 (ps:List (Nat × Nat × Nat)) (b a f:Nat):S9 (ps ++ [(b,a,f)])=S9 ps ++ [b,a,f]:=by simp[S9]
theorem NwS.grow {w:World} {c:Cf} {raw time:Int} {bk bv bc:Nat} {wr w':World} {ps:List (Nat × Nat × Nat)} {v:Value} (h:NwS w c raw time bk bv bc wr ps v) (ho:Oy [] wr w'):NwS w c raw time bk bv bc w' ps v:=
 ⟨ho.got h.cl (by simp),ho.got h.ck (by simp),ho.got h.sv (by simp),h.own.kept ho,fun p hp=>(h.src p hp).kept ho (by simp) (by simp) (by simp),h.nd,fun b hb=>⟨(h.lt b hb).1,Nat.lt_of_lt_of_le (h.lt b hb).2 ho.size⟩,h.only.aB ho⟩
theorem NwS.push {w:World} {c:Cf} {raw time:Int} {bk bv bc:Nat} {wr w4 w5:World} {ps:List (Nat × Nat × Nat)} {v:Value} {b a f g' cap':Nat} (h:NwS w c raw time bk bv bc wr ps v)
  (ho:Oy [] wr w4) (hb:yK w4 b a f (pU c)) (ha:uW w4 a VY) (hf:jW w4 f ⟨c.tol,[]⟩) (hbn:wr.heap.size<=b) (han:wr.heap.size<=a) (hfn:wr.heap.size<=f) (h1:b≠a) (h2:b≠f) (h3:a≠f)
  (hown:Own wZ 177 1 w.heap.size w5 (.slice (some ⟨g',0,none⟩) ((ps.map (·.1)).length+1) cap') (ps.map (·.1) ++ [b])) (ho5:Oy v.ownBlock.toList w4 w5) (hg:v.ownBlock=some g'\/g'=w4.heap.size) :
  NwS w c raw time bk bv bc (w5.setCell ⟨bc,14,none⟩ (.slice (some ⟨g',0,none⟩) ((ps.map (·.1)).length+1) cap')) (ps ++ [(b,a,f)]) (.slice (some ⟨g',0,none⟩) ((ps.map (·.1)).length+1) cap'):=by
 have h4:=h.grow ho;have hbl:=aF hb;have hal:=ha.lt;have hfl:=hf.lt;have hnd:=h.nd;have hlt:=h.lt;have hlt4:=h4.lt;have key:∀ x,x∈bc::bk::bv::(v.ownBlock.toList ++ S9 ps)->x<wr.heap.size:=fun x hx=>(hlt x hx).2;have vb:∀ x∈v.ownBlock.toList,x∈bc::bk::bv::(v.ownBlock.toList ++ S9 ps):=fun x hx=>by simp only[mem_cons,mem_append];exact .inr (.inr (.inr (.inl hx)))
 have vlt:∀ x∈v.ownBlock.toList,x<wr.heap.size:=fun x hx=>key x (vb x hx);simp only[List.nodup_cons,mem_cons,mem_append,not_or,List.nodup_append] at hnd;obtain⟨⟨n1,n2,n3,n4⟩,⟨n5,n6,n7⟩,⟨n8,n9⟩,n10,n11,n12⟩:=hnd;have hge:wr.heap.size<=w4.heap.size:=ho.size
 have g5:g'<w5.heap.size:=by
  rcases hown with ⟨he,_⟩|⟨g2,cap2,he,_,hr⟩
  ·cases he
  ·simp only[Value.slice.injEq,Option.some.injEq,Addr.mk.injEq,and_true] at he
   obtain⟨rfl,_⟩:=he;exact hr.lt
 have hsb:∀ x∈v.ownBlock.toList,x≠bc:=fun x hx e=>n3 (e ▸ hx)
 have hgn:g'=w4.heap.size\/g'∈v.ownBlock.toList:=by
  rcases hg with hg|hg
  ·exact .inr (by rw[hg];simp)
  ·exact .inl hg
 have S:Oy [bc] w5 (w5.setCell ⟨bc,14,none⟩ (.slice (some ⟨g',0,none⟩) ((ps.map (·.1)).length+1) cap')):=(aR [bc] w5).setCell (.inl (by simp)) _;have bc5:w5.heap[bc]? = some (.cells (clN c raw bk bv v) 176 (0,0)):=ho5.got h4.cl n3;have fresh:∀ x,wr.heap.size<=x->x ∉ v.ownBlock.toList:=fun x hx hm=>by have:=vlt x hm;omega
 have nb:∀ x,wr.heap.size<=x->x≠bc:=fun x hx e=>by have:=key bc (by simp);omega
 have gbc:g'≠bc:=by
  rcases hgn with e|e
  ·rw[e];exact nb _ hge
  ·exact hsb g' e
 refine⟨?_,?_,?_,?_,?_,?_,?_,?_⟩
 ·rw[aH _ bc5];rfl
 ·exact S.got (ho5.got h4.ck n6) (by simp;exact Ne.symm n1)
 ·exact S.got (ho5.got h4.sv n8) (by simp;exact Ne.symm n2)
 ·rw[List.map_append]
  rcases hown with ⟨he,_⟩|⟨g2,cap2,he,hge2,hr⟩
  ·cases he
  ·simp only[Value.slice.injEq,Option.some.injEq,Addr.mk.injEq,and_true] at he
   obtain⟨rfl,hn2,rfl⟩:=he;exact .inr ⟨g',cap',by simp,hge2,hr.kept S (by simpa using gbc)⟩
 ·intro p hp
  rcases mem_append.1 hp with hp|hp
  ·have hin:∀ x∈[p.1,p.2.1,p.2.2],x∈S9 ps:=fun x hx=>List.mem_flatMap.2 ⟨p,hp,hx⟩
   have nn:∀ x∈[p.1,p.2.1,p.2.2],x ∉ v.ownBlock.toList/\x≠bc:=fun x hx=>⟨fun hm=>n12 x hm x (hin x hx) rfl,fun e=>n4 (e ▸ hin x hx)⟩;have q1:=nn p.1 (by simp);have q2:=nn p.2.1 (by simp);have q3:=nn p.2.2 (by simp);exact ((h4.src p hp).kept ho5 q1.1 q2.1 q3.1).kept S (by simpa using q1.2) (by simpa using q2.2) (by simpa using q3.2)
  ·simp only[mem_cons,not_mem_nil,or_false] at hp
   subst hp;exact (tJ.kept ⟨hb,ha,hf⟩ ho5 (fresh _ hbn) (fresh _ han) (fresh _ hfn)).kept S (by simpa using nb _ hbn) (by simpa using nb _ han) (by simpa using nb _ hfn)
 ·have tlt:∀ x∈S9 ps,x<wr.heap.size:=fun x hx=>key x (by simp only[mem_cons,mem_append];exact .inr (.inr (.inr (.inr hx))))
  have gk:g'≠bk:=by rcases hgn with e|e;(have:=key bk (by simp);omega);exact fun e2=>n6 (e2 ▸ e)
  have gv:g'≠bv:=by rcases hgn with e|e;(have:=key bv (by simp);omega);exact fun e2=>n8 (e2 ▸ e)
  have gt:g' ∉ S9 ps:=by
   rcases hgn with e|e
   ·intro hm;have:=tlt _ hm;omega
   ·intro hm;exact n12 g' e g' hm rfl
  have kb:=key bc (by simp);have kk:=key bk (by simp);have kv:=key bv (by simp)
  have gg:g'≠b/\g'≠a/\g'≠f:=by
   rcases hgn with e|e
   ·exact⟨by omega,by omega,by omega⟩
   ·have:=vlt _ e;exact⟨by omega,by omega,by omega⟩
  rw[A9];simp only[Value.ownBlock,Option.toList_some,List.nodup_cons,mem_cons,mem_append,not_mem_nil,or_false,not_or,List.nodup_append,List.nodup_nil,and_true,not_false_eq_true];refine⟨⟨n1,n2,Ne.symm gbc,n4,by omega,by omega,by omega⟩,⟨n5,Ne.symm gk,n7,by omega,by omega,by omega⟩,⟨Ne.symm gv,n9,by omega,by omega,by omega⟩,?_⟩;refine⟨trivial,⟨n11,⟨⟨h1,h2⟩,h3⟩,?_⟩,?_⟩
  ·intro x hx y hy e
   have:=tlt x hx;rcases hy with rfl|rfl|rfl<;>omega
  ·intro x hx y hy e
   subst hx;rcases hy with hy|rfl|rfl|rfl
   ·exact gt (e ▸ hy)
   ·exact gg.1 e
   ·exact gg.2.1 e
   ·exact gg.2.2 e
 ·intro x hx
  rw[size_setCell,A9] at *;simp only[Value.ownBlock,Option.toList_some,mem_cons,mem_append,not_mem_nil,or_false] at hx;have h5:=ho5.size;have hw:=h.only.size;have old:∀ y,y∈bc::bk::bv::(v.ownBlock.toList ++ S9 ps)->w.heap.size<=y/\y<w5.heap.size:=fun y hy=>⟨(hlt y hy).1,Nat.lt_of_lt_of_le (hlt4 y hy).2 h5⟩;rcases hx with rfl|rfl|rfl|rfl|hx|rfl|rfl|rfl
  ·exact old _ (by simp)
  ·exact old _ (by simp)
  ·exact old _ (by simp)
  ·refine⟨?_,g5⟩
   rcases hgn with e|e
   ·omega
   ·exact (hlt _ (vb _ e)).1
  ·exact old _ (by simp only[mem_cons,mem_append];exact .inr (.inr (.inr (.inr hx))))
  ·exact⟨by omega,by omega⟩
  ·exact⟨by omega,by omega⟩
  ·exact⟨by omega,by omega⟩
 ·refine ((h4.only.trans ho5 (fun x hx=>.inr ?_)).setCell (.inr ?_) _)
  ·exact (hlt x (vb x hx)).1
  ·exact (hlt bc (by simp)).1
end
end Go.Proofs.YtppjhbjmfkiejaaGreat
