/- Texts of one chain: D1, D2, D3. Conditions: those named in each theorem. -/
import Derived.Test.YthbgcpfklmlnjaaGreatFJa
import Derived.BigQuiet
import Derived.Laws.CopyOwn
namespace Go.Proofs.YthbgcpfklmlnjaaGreat
open List (getD_cons_succ getD_cons_zero getElem?_eq_getElem length_append length_cons length_nil length_take map_cons map_nil)
open Go.Lib (hid)
set_option maxRecDepth 100000
set_option maxHeartbeats 2000000
section
open Go.RowKit
structure Sc where
 kp:Int
 ki:Int
 lim:Int
 sf:Int
 sl:Int
deriving DecidableEq,Inhabited
structure Sv where
 c:Sc
 itg:Int
 smp:Int
 frq:Int
deriving DecidableEq,Inhabited
def scV (c:Sc):Value:=.agg #[.int .i64 c.kp,.int .i64 c.ki,.int .i64 c.lim,.int .i64 c.sf,.int .i64 c.sl]
def sG (c:Sc):Int:=if bT c.kp 0 1048576 && (bT c.ki 0 1048576 && (bT c.lim 1 500000 && (bT c.sf 0 1125899906842624 && bT c.sl 0 1125899906842624))) then 0 else 3
def lW (w:World) (b:Nat) (s:Sv):Prop:=w.heap[b]? = some (.cells #[.int .i64 s.c.kp,.int .i64 s.c.ki,.int .i64 s.c.lim,.int .i64 s.c.sf,.int .i64 s.c.sl,.int .i64 s.itg,.int .i64 s.smp,.int .i64 s.frq] 173 (0,0))
theorem max_min {n lo hi:Int} (h:lo<=hi):max lo (min n hi)=bZ n lo hi:=by
 unfold bZ;split
 ·omega
 ·split<;>omega
theorem y9 (n lo hi:Int) (h:lo<=hi) (w:World) :
  Calls Tryz.prog 75 #[.int .i64 n,.int .i64 lo,.int .i64 hi] w fun e w'=>e=.returned (.int .i64 (bZ n lo hi))/\Only [] w w':=by
 have hm:=max_min (n:=n) h;have HM:=hid hm.symm;clear hm;go_enter Tryz.func75,Tryz.ntmps75
 have OO:=hid (Only.refl [] w);go_wp2;go_ret
 exact⟨by rw[HM.out];rfl,OO.out⟩
theorem kT (n lo hi:Int) (h:lo<=hi) (w:World) :
  Calls Tryz.prog 66 #[.int .i64 n,.int .i64 lo,.int .i64 hi] w fun e w'=>e=.returned (.bool (bT n lo hi))/\Only [] w w':=by
 have HC:=hid (fun w'=>y9 n lo hi h w')
 have hv:(bZ n lo hi == n)=bT n lo hi:=by
  cases hw:bT n lo hi
  ·exact KN h hw
  ·rw[EX hw];simp
 generalize bT n lo hi=r at hv |-;generalize bZ n lo hi=c at HC hv;go_enter Tryz.func66,Tryz.ntmps66
 have OO:=hid (Only.refl [] w);go_wp2_with fail
 refine (HC.out _).mono ?_;rintro e w2 ⟨rfl,ho⟩;replace OO:=hid (OO.out.aB ho);clear ho;go_wp2;go_ret
 exact⟨rfl,OO.out⟩
theorem WR (c:Sc) (w:World) :
  Calls Tryz.prog 50 #[scV c] w fun e w'=>e=.returned (.int .i64 (sG c))/\Only [] w w':=by
 obtain⟨kp,ki,lm,sf,sl⟩:=c;have HE:Hid (sG ⟨kp,ki,lm,sf,sl⟩=if bT kp 0 1048576 && (bT ki 0 1048576 && (bT lm 1 500000 && (bT sf 0 1125899906842624 && (bT sl 0 1125899906842624)))) then 0 else 3):=hid rfl;generalize sG ⟨kp,ki,lm,sf,sl⟩=res at HE |-;have H1:=hid (fun w'=>kT kp 0 1048576 (by omega) w');generalize bT kp 0 1048576=x1 at H1 HE;have H2:=hid (fun w'=>kT ki 0 1048576 (by omega) w');generalize bT ki 0 1048576=x2 at H2 HE;have H3:=hid (fun w'=>kT lm 1 500000 (by omega) w');generalize bT lm 1 500000=x3 at H3 HE;have H4:=hid (fun w'=>kT sf 0 1125899906842624 (by omega) w');generalize bT sf 0 1125899906842624=x4 at H4 HE;have H5:=hid (fun w'=>kT sl 0 1125899906842624 (by omega) w');generalize bT sl 0 1125899906842624=x5 at H5 HE;unfold scV;dsimp only
 cases x1
 focus
  obtain rfl:res=3:=by have:=HE.out;simpa using this
  clear HE;go_enter Tryz.func50,Tryz.ntmps50
  go_upto_region 1 with (fail)
  refine aF (G:=fun w0=>Code.wp _ _ _ _ w0) ?_;intro w1 hb1 ho1 hs1;obtain⟨b1,hbe1⟩:∃ b,w.heap.size=b:=⟨_,rfl⟩;rw[hbe1] at hb1;rw[hbe1];have HN:Hid (w.heap.size<=b1):=hid (by omega);have B1:=hid hb1;have OO:=hid ho1;clear hb1 hs1 hbe1;clear ho1;have k1:=E8 B1.out;go_wp2_with fail
  refine (H1.out _).mono ?_;rintro e w2 ⟨rfl,ho⟩
 rotate_left
 focus
  cases x2
  focus
   obtain rfl:res=3:=by have:=HE.out;simpa using this
   clear HE;go_enter Tryz.func50,Tryz.ntmps50
   go_upto_region 1 with (fail)
   refine aF (G:=fun w0=>Code.wp _ _ _ _ w0) ?_;intro w1 hb1 ho1 hs1;obtain⟨b1,hbe1⟩:∃ b,w.heap.size=b:=⟨_,rfl⟩;rw[hbe1] at hb1;rw[hbe1];have HN:Hid (w.heap.size<=b1):=hid (by omega);have B1:=hid hb1;have OO:=hid ho1;clear hb1 hs1 hbe1;clear ho1;have k1:=E8 B1.out;go_wp2_with fail
   refine (H1.out _).mono ?_;rintro e w2 ⟨rfl,ho⟩;clear k1;replace OO:=hid (OO.out.aB ho);replace B1:=hid (ho.got B1.out (by simp));clear ho;have k1:=E8 B1.out;go_wp2_with fail
   refine (H2.out _).mono ?_;rintro e w3 ⟨rfl,ho⟩
  rotate_left
  focus
   cases x3
   focus
    obtain rfl:res=3:=by have:=HE.out;simpa using this
    clear HE;go_enter Tryz.func50,Tryz.ntmps50
    go_upto_region 1 with (fail)
    refine aF (G:=fun w0=>Code.wp _ _ _ _ w0) ?_;intro w1 hb1 ho1 hs1;obtain⟨b1,hbe1⟩:∃ b,w.heap.size=b:=⟨_,rfl⟩;rw[hbe1] at hb1;rw[hbe1];have HN:Hid (w.heap.size<=b1):=hid (by omega);have B1:=hid hb1;have OO:=hid ho1;clear hb1 hs1 hbe1;clear ho1;have k1:=E8 B1.out;go_wp2_with fail
    refine (H1.out _).mono ?_;rintro e w2 ⟨rfl,ho⟩;clear k1;replace OO:=hid (OO.out.aB ho);replace B1:=hid (ho.got B1.out (by simp));clear ho;have k1:=E8 B1.out;go_wp2_with fail
    refine (H2.out _).mono ?_;rintro e w3 ⟨rfl,ho⟩;clear k1;replace OO:=hid (OO.out.aB ho);replace B1:=hid (ho.got B1.out (by simp));clear ho;have k1:=E8 B1.out;go_wp2_with fail
    refine (H3.out _).mono ?_;rintro e w4 ⟨rfl,ho⟩
   rotate_left
   focus
    cases x4
    focus
     obtain rfl:res=3:=by have:=HE.out;simpa using this
     clear HE;go_enter Tryz.func50,Tryz.ntmps50
     go_upto_region 1 with (fail)
     refine aF (G:=fun w0=>Code.wp _ _ _ _ w0) ?_;intro w1 hb1 ho1 hs1;obtain⟨b1,hbe1⟩:∃ b,w.heap.size=b:=⟨_,rfl⟩;rw[hbe1] at hb1;rw[hbe1];have HN:Hid (w.heap.size<=b1):=hid (by omega);have B1:=hid hb1;have OO:=hid ho1;clear hb1 hs1 hbe1;clear ho1;have k1:=E8 B1.out;go_wp2_with fail
     refine (H1.out _).mono ?_;rintro e w2 ⟨rfl,ho⟩;clear k1;replace OO:=hid (OO.out.aB ho);replace B1:=hid (ho.got B1.out (by simp));clear ho;have k1:=E8 B1.out;go_wp2_with fail
     refine (H2.out _).mono ?_;rintro e w3 ⟨rfl,ho⟩;clear k1;replace OO:=hid (OO.out.aB ho);replace B1:=hid (ho.got B1.out (by simp));clear ho;have k1:=E8 B1.out;go_wp2_with fail
     refine (H3.out _).mono ?_;rintro e w4 ⟨rfl,ho⟩;clear k1;replace OO:=hid (OO.out.aB ho);replace B1:=hid (ho.got B1.out (by simp));clear ho;have k1:=E8 B1.out;go_wp2_with fail
     refine (H4.out _).mono ?_;rintro e w5 ⟨rfl,ho⟩
    rotate_left
    focus
     cases x5
     focus
      obtain rfl:res=3:=by have:=HE.out;simpa using this
     rotate_left
     focus
      obtain rfl:res=0:=by have:=HE.out;simpa using this
     rotate_left
     all_goals
      clear HE;go_enter Tryz.func50,Tryz.ntmps50
      go_upto_region 1 with (fail)
      refine aF (G:=fun w0=>Code.wp _ _ _ _ w0) ?_;intro w1 hb1 ho1 hs1;obtain⟨b1,hbe1⟩:∃ b,w.heap.size=b:=⟨_,rfl⟩;rw[hbe1] at hb1;rw[hbe1];have HN:Hid (w.heap.size<=b1):=hid (by omega);have B1:=hid hb1;have OO:=hid ho1;clear hb1 hs1 hbe1;clear ho1;have k1:=E8 B1.out;go_wp2_with fail
      refine (H1.out _).mono ?_;rintro e w2 ⟨rfl,ho⟩;clear k1;replace OO:=hid (OO.out.aB ho);replace B1:=hid (ho.got B1.out (by simp));clear ho;have k1:=E8 B1.out;go_wp2_with fail
      refine (H2.out _).mono ?_;rintro e w3 ⟨rfl,ho⟩;clear k1;replace OO:=hid (OO.out.aB ho);replace B1:=hid (ho.got B1.out (by simp));clear ho;have k1:=E8 B1.out;go_wp2_with fail
      refine (H3.out _).mono ?_;rintro e w4 ⟨rfl,ho⟩;clear k1;replace OO:=hid (OO.out.aB ho);replace B1:=hid (ho.got B1.out (by simp));clear ho;have k1:=E8 B1.out;go_wp2_with fail
      refine (H4.out _).mono ?_;rintro e w5 ⟨rfl,ho⟩;clear k1;replace OO:=hid (OO.out.aB ho);replace B1:=hid (ho.got B1.out (by simp));clear ho;have k1:=E8 B1.out;go_wp2_with fail
      refine (H5.out _).mono ?_;rintro e w6 ⟨rfl,ho⟩
    rotate_left 2
   rotate_left 3
  rotate_left 4
 rotate_left 5
 all_goals
  clear k1;replace OO:=hid (OO.out.aB ho);replace B1:=hid (ho.got B1.out (by simp));clear ho;have k1:=E8 B1.out;go_wp2;go_ret
  exact⟨rfl,OO.out⟩
theorem pSvNew (c:Sc) (h:sG c=0) (w:World) :
  Calls Tryz.prog 53 #[scV c] w fun e w'=>(∃ b,e=.returned (.pointer (some ⟨b,0,none⟩))/\w.heap.size<=b/\lW w' b ⟨c,0,0,0⟩)/\Only [] w w':=by
 have HC:=hid (fun w'=>WR c w');obtain⟨kp,ki,lm,sf,sl⟩:=c;rw[h] at HC;unfold scV at HC |-;dsimp only at HC |-;go_enter Tryz.func53,Tryz.ntmps53
 go_upto_region 1 with (fail)
 refine aF (G:=fun w0=>Code.wp _ _ _ _ w0) ?_;intro w1 hb1 ho1 hs1;obtain⟨b1,hbe1⟩:∃ b,w.heap.size=b:=⟨_,rfl⟩;rw[hbe1] at hb1;rw[hbe1];have HN:Hid (w.heap.size<=b1):=hid (by omega);have B1:=hid hb1;have OO:=hid ho1;clear hb1 hs1 hbe1;clear ho1;have k1:=E8 B1.out;go_wp2_with fail
 refine (HC.out _).mono ?_;rintro e w2 ⟨rfl,ho⟩;clear k1;replace OO:=hid (OO.out.aB ho);replace B1:=hid (ho.got B1.out (by simp));clear ho;have k1:=E8 B1.out;go_wp2;refine aF (G:=fun w0=>bodyPost _ _ _ _ _ w0) ?_;intro w3 hb ho _;go_ret
 exact⟨⟨_,rfl,OO.out.size,hb⟩,OO.out.aB ho⟩
structure Fl where
 tol:Int
 l:List iM
deriving DecidableEq,Inhabited
def jQ (w:World) (b:Nat) (f:Fl):Prop:=∃ (L:List Value) (sh:Bool) (la:Int),L.length=32/\(∀ v∈L,∃ z,v=.int .i64 z)/\L.take (f.l.length*4)=f.l.flatMap jR/\f.l.length<=8 /\
 w.heap[b]? = some (.cells (.int .i64 f.tol::(L ++ [.int .i64 f.l.length,.bool sh,.int .i64 la])).toArray 183 (0,0))
theorem jQ.kept {w w':World} {b:Nat} {f:Fl} {S:List Nat} (h:jQ w b f) (ho:Only S w w') (hS:b ∉ S):jQ w' b f:=by
 obtain⟨L,sh,la,h1,h2,h3,h4,h⟩:=h;exact⟨L,sh,la,h1,h2,h3,h4,ho.got h hS⟩
theorem jQ.lt {w:World} {b:Nat} {f:Fl} (h:jQ w b f):b<w.heap.size:=by
 obtain⟨L,sh,la,h1,h2,h3,h4,h⟩:=h;exact aD h
theorem pFNew (tol:Int) (h0:0<=tol) (h1:tol<=500000) (w:World) :
  Calls Tryz.prog 56 #[.int .i64 tol] w fun e w'=>(∃ b,e=.returned (.pointer (some ⟨b,0,none⟩))/\w.heap.size<=b/\jQ w' b ⟨tol,[]⟩)/\Only [] w w':=by
 have d1:decide (tol<0)=false:=by simp;omega
 have d2:decide (500000<tol)=false:=by simp;omega
 go_enter Tryz.func56,Tryz.ntmps56
 have OO:=hid (Only.refl [] w);go_wp2;refine aF (G:=fun w0=>bodyPost _ _ _ _ _ w0) ?_;intro w3 hb ho _;go_ret
 refine⟨⟨_,rfl,OO.out.size,?_⟩,OO.out.aB ho⟩;exact⟨List.replicate 32 (.int .i64 0),false,0,by decide,fun v hv=>⟨0,List.eq_of_mem_replicate hv⟩,by simp,by simp,hb⟩
end
section
open Go.RowKit
def vK (f:Fl) (s:iM):Fl:={ f with l:=(if f.l.length=8 then f.l.drop 1 else f.l) ++ [s] }
def GV (f:Fl) (s:iM):Fl × Int:=
 if gD s=0 then (match f.l.getLast? with
  | some x=>if s.tat<=x.tat then (f,12) else (vK f s,0)
  | none=>(vK f s,0)) else (f,3)
def jO (tol:Int) (L:List Value) (n:Int) (sh:Bool) (la:Int):List Value:=.int .i64 tol::(L ++ [.int .i64 n,.bool sh,.int .i64 la])
theorem kH {tol:Int} {L:List Value} {n:Int} {sh:Bool} {la:Int} (h:L.length=32):(jO tol L n sh la).length=36:=by simp[jO,h]
theorem wO {tol:Int} {L:List Value} {n:Int} {sh:Bool} {la:Int} (h:L.length=32) {j:Nat} (hj:j<32):(jO tol L n sh la)[1+j]? = L[j]? :=by
 rw[jO,Nat.add_comm,List.getElem?_cons_succ,List.getElem?_append_left (by omega)]
theorem gV {tol:Int} {L:List Value} {n:Int} {sh:Bool} {la:Int} (h:L.length=32):(jO tol L n sh la)[33]? = some (.int .i64 n):=by
 rw[jO,show 33=32+1 from rfl,List.getElem?_cons_succ,List.getElem?_append_right (by omega),h];rfl
theorem TA {tol:Int} {L:List Value} {n m:Int} {sh:Bool} {la:Int} (h:L.length=32):(jO tol L n sh la).set 33 (.int .i64 m)=jO tol L m sh la:=by
 rw[jO,show 33=32+1 from rfl,List.set_cons_succ,List.set_append_right _ _ (by omega),h];rfl
theorem zI {tol:Int} {L:List Value} {n:Int} {sh:Bool} {la:Int} (h:L.length=32) {j:Nat} (hj:j<32) (v:Value):(jO tol L n sh la).set (1+j) v=jO tol (L.set j v) n sh la:=by
 rw[jO,Nat.add_comm,List.set_cons_succ,List.set_append_left _ _ (by omega)];rfl
theorem U9 {L:List Value} {o:Nat} (ho:o+4<=L.length) (a b c d:Value):(((L.set o a).set (o+1) b).set (o+2) c).set (o+3) d=L.take o ++ [a,b,c,d] ++ L.drop (o+4):=by
 apply List.ext_getElem?
 intro i;simp only[List.getElem?_set,List.length_set];by_cases h1:i<o
 ·rw[if_neg (by omega),if_neg (by omega),if_neg (by omega),if_neg (by omega),List.append_assoc,List.getElem?_append_left (by rw[length_take];omega),List.getElem?_take,if_pos h1]
 ·by_cases h2:i<o+4
  ·rw[List.append_assoc,List.getElem?_append_right (by rw[length_take];omega),length_take,Nat.min_eq_left (by omega),List.getElem?_append_left (by simp;omega)]
   rcases (by omega:i=o\/i=o+1\/i=o+2\/i=o+3) with rfl|rfl|rfl|rfl
   ·rw[if_neg (by omega),if_neg (by omega),if_neg (by omega),if_pos rfl,if_pos (by omega)];simp
   ·rw[if_neg (by omega),if_neg (by omega),if_pos rfl,if_pos (by omega)];simp
   ·rw[if_neg (by omega),if_pos rfl,if_pos (by omega)];simp
   ·rw[if_pos rfl,if_pos (by omega)];simp
  ·rw[if_neg (by omega),if_neg (by omega),if_neg (by omega),if_neg (by omega),List.append_assoc,List.getElem?_append_right (by rw[length_take];omega),length_take,Nat.min_eq_left (by omega),List.getElem?_append_right (by simp;omega),List.getElem?_drop]
   congr 1
   simp only[length_cons,length_nil];omega
theorem FT (l:List iM):(l.flatMap jR).length=l.length*4:=dW jR 4 iD l
theorem F6 {L:List Value} {l:List iM} {s:iM} (hL:L.length=32) (hI:∀ v∈L,∃ z,v=.int .i64 z) (hT:L.take (l.length*4)=l.flatMap jR) (h8:l.length<8) :
  (L.take (l.length*4) ++ jR s ++ L.drop (l.length*4+4)).length=32/\(∀ v∈L.take (l.length*4) ++ jR s ++ L.drop (l.length*4+4),∃ z,v=.int .i64 z) /\
  (L.take (l.length*4) ++ jR s ++ L.drop (l.length*4+4)).take ((l ++ [s]).length*4)=(l ++ [s]).flatMap jR:=by
 refine⟨by simp[jR];omega,fun v hv=>?_,?_⟩
 ·simp only[List.append_assoc,List.mem_append] at hv
  rcases hv with hv|hv|hv
  ·exact hI v (List.mem_of_mem_take hv)
  ·simp only[jR,List.mem_cons,List.not_mem_nil,or_false] at hv
   rcases hv with rfl|rfl|rfl|rfl<;>exact⟨_,rfl⟩
  ·exact hI v (List.mem_of_mem_drop hv)
 ·have e1:(l.flatMap jR ++ jR s).length=(l ++ [s]).length*4:=by rw[length_append,FT,iD,length_append];simp only[length_cons,length_nil];omega
  rw[hT,List.flatMap_append,List.take_append_of_le_length (Nat.le_of_eq e1.symm),List.take_of_length_le (Nat.le_of_eq e1)];simp
theorem U7 {L:List Value} {l:List iM} (hL:L.length=32) (hI:∀ v∈L,∃ z,v=.int .i64 z) (hT:L.take (l.length*4)=l.flatMap jR) (h8:l.length=8) :
  ((L.drop 4).take 28 ++ L.drop 28).length=32/\(∀ v∈(L.drop 4).take 28 ++ L.drop 28,∃ z,v=.int .i64 z)/\((L.drop 4).take 28 ++ L.drop 28).take ((l.drop 1).length*4)=(l.drop 1).flatMap jR:=by
 refine⟨by simp;omega,fun v hv=>?_,?_⟩
 ·rcases List.mem_append.1 hv with hv|hv
  ·exact hI v (List.mem_of_mem_drop (List.mem_of_mem_take hv))
  ·exact hI v (List.mem_of_mem_drop hv)
 ·have hl:(l.drop 1).length=7:=by rw[List.length_drop];omega
  rw[hl,List.take_append_of_le_length (by simp;omega),List.take_take];have hd:(L.take (l.length*4)).drop 4=(l.flatMap jR).drop 4:=by rw[hT]
  rw[h8,List.drop_take] at hd
  have hf:(l.flatMap jR).drop 4=(l.drop 1).flatMap jR:=by
   cases l with
   | nil=>simp at h8
   | cons a r=>simp[List.flatMap_cons,jR]
  rw[<-hf,<-hd];rfl
theorem EP {w:World} {b:Nat} {tol:Int} {L:List Value} {l:List iM} {sh:Bool} {la:Int} (hL:L.length=32) (hI:∀ v∈L,∃ z,v=.int .i64 z) (hT:L.take (l.length*4)=l.flatMap jR) (h8:l.length<=8)
 (h:w.heap[b]? = some (.cells (jO tol L l.length sh la).toArray 183 (0,0))):jQ w b ⟨tol,l⟩:=⟨L,sh,la,hL,hI,hT,h8,h⟩
theorem Y6 {L:List Value} {l:List iM} (hT:L.take (l.length*4)=l.flatMap jR) {k:Nat} (hk:k<l.length) (j:Nat) (hj:j<4):L[k*4+j]? = (jR l[k])[j]? :=by
 have h1:=flat_get jR 4 iD l k j l[k] (getElem?_eq_getElem hk) hj;rw[<-hT,List.getElem?_take,if_pos (by omega)] at h1;exact h1
theorem KC {w:World} {b:Nat} {tol:Int} {L:List Value} {n:Int} {sh:Bool} {la:Int} {o:Int} {d:Int} {e:Int} {t:Int} (hL:L.length=32) {k:Nat} (hk:k<8)
  (h:w.heap[b]? = some (.cells (jO tol L n sh la).toArray 183 (0,0))) :
  ((((w.setCell ⟨b,1+k*4,none⟩ (.int .i64 o)).setCell ⟨b,1+k*4+1,none⟩ (.int .i64 d)).setCell ⟨b,1+k*4+2,none⟩ (.int .i64 e)).setCell ⟨b,1+k*4+3,none⟩ (.int .i64 t)).heap[b]? = some (.cells (jO tol (L.take (k*4) ++ jR ⟨o,d,e,t⟩ ++ L.drop (k*4+4)) n sh la).toArray 183 (0,0)):=by
 have:=aG (o:=1+k*4+3) (.int .i64 t) (aG (o:=1+k*4+2) (.int .i64 e) (aG (o:=1+k*4+1) (.int .i64 d) (aG (o:=1+k*4) (.int .i64 o) h)));rw[this];simp only[List.setIfInBounds_toArray];rw[zI hL (by omega),show 1+k*4+1=1+(k*4+1) by omega,zI (by simpa using hL) (by omega),show 1+k*4+2=1+(k*4+2) by omega,zI (by simpa using hL) (by omega),show 1+k*4+3=1+(k*4+3) by omega,zI (by simpa using hL) (by omega),U9 (by omega)];rfl
theorem BQ {w:World} {b:Nat} {tol:Int} {L:List Value} {n m:Int} {sh:Bool} {la:Int} (hL:L.length=32)
  (h:w.heap[b]? = some (.cells (jO tol L n sh la).toArray 183 (0,0))):(w.setCell ⟨b,33,none⟩ (.int .i64 m)).heap[b]? = some (.cells (jO tol L m sh la).toArray 183 (0,0)):=by
 rw[aG _ h,List.setIfInBounds_toArray,TA hL]
theorem DI {P:Program} (w:World) (dT sT ty elem:TypeId) (g o dLen dCap:Nat) (a:Addr) (sLen sCap:Nat) (cur:Array Value) (t:TypeId) (cs:List Value) (s N:Nat)
  (hu:P.underlying dT=some (.slice elem)) (hs:(P.info? elem).map (·.size)=some s)
  (hg:w.heap[g]? = some (.cells cur t (0,0))) (hN:Nat.min sLen dLen=N) (hn:cs.length=N*s)
  (hsrc:∀ j v,cs[j]? = some v->w.cell? (a.add j)=some v) (hfit:o+cs.length<=cur.size) (h1:∀ v∈cs,v.oneCell'=true) :
  (Builtin.copy_ #[dT,sT] ty #[.slice (some ⟨g,o,none⟩) dLen dCap,.slice (some a) sLen sCap]).run P w =
   .ok (goInt N) (w.setRow g (cur.toList.take o ++ cs ++ cur.toList.drop (o+cs.length)).toArray):=by
 have hl:=run_loadCells_list (P:=P) w a cs hsrc;have hst:=run_storeCells_at P g o t cs 0 cur w hg (by simpa using hfit) h1
 cases hq:P.info? elem with
 | none=>simp[hq] at hs
 | some i =>
  have hi:i.size=s:=by simpa [hq] using hs
  rw[hn] at hl;simp[Builtin.copy_,run_underlying hu,Builtin.lenOf,Builtin.firstCells,sizeOf,typeInfo,hq,hi,hN,hl,hst]
theorem vT {P:Program} {w:World} {ops:Array Oper} {rest:List Oper} {o:Oper} {a:Act} {Q:Exit->Act->World->Prop} (hgd:o.guard=none) (d s:Operand) (dT sT:TypeId)
  (ho:o.op=.call { callee:=.builtin .copy,args:=#[d,s],argTypes:=#[dT,sT] }) (elem:TypeId) (sz N:Nat) (hu:P.underlying dT=some (.slice elem)) (hsz:(P.info? elem).map (·.size)=some sz)
  (g off dLen dCap:Nat) (ad:Addr) (sLen sCap:Nat) (hd:a.eval d=.slice (some ⟨g,off,none⟩) dLen dCap) (hs:a.eval s=.slice (some ad) sLen sCap)
  (cur:Array Value) (t:TypeId) (hg:w.heap[g]? = some (.cells cur t (0,0))) (cs:List Value) (hN:Nat.min sLen dLen=N) (hn:cs.length=N*sz)
  (hsrc:∀ j v,cs[j]? = some v->w.cell? (ad.add j)=some v) (hfit:off+cs.length<=cur.size) (h1:∀ v∈cs,v.oneCell'=true)
  (h:wpList P ops Q rest (a.put o.dst (goInt N)) (w.setRow g (cur.toList.take off ++ (cs ++ cur.toList.drop (off+cs.length))).toArray)):wpList P ops Q (o::rest) a w:=by
 refine wpList_plain hgd fun K hK=>?_;have hrun:=DI (P:=P) w dT sT o.type elem g off dLen dCap ad sLen sCap cur t cs sz N hu hsz hg hN hn hsrc hfit h1;unfold Oper.wp;simp[execOp,ho,resolve,invoke,builtin,hd,hs,hrun,Result.andThen];exact hK _ _ h
end
section
open Go.RowKit
theorem YN {l:List iM} {x:iM} (h:l.getLast? = some x):∃ j,l.length=j+1/\∃ hj:j<l.length,l[j]=x:=by
 rw[List.getLast?_eq_getElem?] at h
 have hlt:l.length-1<l.length:=by
  rcases Nat.eq_zero_or_pos l.length with h0|h0
  ·rw[h0] at h;simp at h
   have:=List.eq_nil_of_length_eq_zero h0;subst this;cases h
  ·omega
 rw[getElem?_eq_getElem hlt] at h;exact⟨l.length-1,by omega,hlt,Option.some.inj h⟩
theorem TD {w:World} {b:Nat} {tol:Int} {L:List Value} {n:Int} {sh:Bool} {la:Int} {o:Int} {d:Int} {e:Int} {t:Int} (hL:L.length=32)
  (h:w.heap[b]? = some (.cells (jO tol L n sh la).toArray 183 (0,0))) :
  ((((w.setCell ⟨b,29,none⟩ (.int .i64 o)).setCell ⟨b,30,none⟩ (.int .i64 d)).setCell ⟨b,31,none⟩ (.int .i64 e)).setCell ⟨b,32,none⟩ (.int .i64 t)).heap[b]? = some (.cells (jO tol (L.take 28 ++ jR ⟨o,d,e,t⟩ ++ L.drop 32) n sh la).toArray 183 (0,0)):=by
 have h5:=KC (k:=7) (o:=o) (d:=d) (e:=e) (t:=t) hL (by omega) h;simp only[Nat.reduceMul,Nat.reduceAdd] at h5;exact h5
theorem pFAdd {w:World} {b:Nat} {f:Fl} (hf:jQ w b f) (s:iM) :
  Calls Tryz.prog 232 #[.pointer (some ⟨b,0,none⟩),vX s] w fun e w'=>e=.returned (.int .i64 (GV f s).2)/\jQ w' b (GV f s).1/\Only [b] w w':=by
 obtain⟨L,sh,la,hL,hI,hT,h8,hF0⟩:=hf;obtain⟨tol,l⟩:=f;obtain⟨a,bb,c,d⟩:=s;dsimp only at hT h8 hF0;have hF:w.heap[b]? = some (.cells (jO tol L l.length sh la).toArray 183 (0,0)):=hF0;have FF:=hid hF;have HL:=hid (And.intro hL (And.intro hI (And.intro hT h8)));have hblt:=aD hF;have HBL:=hid hblt;have HC:=hid (fun w'=>D9 ⟨a,bb,c,d⟩ w');have hso:=uO ⟨a,bb,c,d⟩
 have HE:Hid (GV ⟨tol,l⟩ ⟨a,bb,c,d⟩=if gD ⟨a,bb,c,d⟩=0 then (match l.getLast? with
   | some x=>if d<=x.tat then (⟨tol,l⟩,12) else (vK ⟨tol,l⟩ ⟨a,bb,c,d⟩,0)
   | none=>(vK ⟨tol,l⟩ ⟨a,bb,c,d⟩,0)) else (⟨tol,l⟩,(3:Int))):=hid rfl
 generalize GV ⟨tol,l⟩ ⟨a,bb,c,d⟩=res at HE |-;generalize gD ⟨a,bb,c,d⟩=er at HC HE hso;obtain⟨n,hn⟩:∃ n,l.length=n:=⟨_,rfl⟩;rw[hn] at FF;unfold vX at HC |-;dsimp only at HC |-;clear hL hI hT hF0 hF hblt;rcases hso with rfl|rfl;rotate_left
 ·obtain rfl:res=(⟨tol,l⟩,3):=by have:=HE.out;simpa using this
  clear HE;go_enter Tryz.func232,Tryz.ntmps232
  go_upto_region 1 with (fail)
  refine aF (G:=fun w0=>Code.wp _ _ _ _ w0) ?_;intro w1 hb1 ho1 hs1;obtain⟨b1,hbe1⟩:∃ b,w.heap.size=b:=⟨_,rfl⟩;rw[hbe1] at hb1;rw[hbe1];have HN:Hid (w.heap.size<=b1):=hid (by omega);have B1:=hid hb1;have OO:=hid ho1;clear hb1 hs1 hbe1;replace OO:=hid (ho1.weak (S':=[b]) (by simp));replace FF:=hid (ho1.got FF.out (by simp));clear ho1;have k1:=tZ B1.out;have c33:w1.cell? ⟨b,33,none⟩=some (.int .i64 (n:Int)):=by rw[aA FF.out,List.getElem?_toArray];exact gV HL.out.1
  have lb:=aD FF.out;go_wp2_with fail
  refine (HC.out _).mono ?_;rintro e w2 ⟨rfl,ho⟩;clear k1 c33 lb;replace OO:=hid (OO.out.aB ho);replace B1:=hid (ho.got B1.out (by simp));replace FF:=hid (ho.got FF.out (by simp));clear ho;have k1:=tZ B1.out;have c33:w2.cell? ⟨b,33,none⟩=some (.int .i64 (n:Int)):=by rw[aA FF.out,List.getElem?_toArray];exact gV HL.out.1
  have lb:=aD FF.out;go_wp2;go_ret
  exact⟨rfl,EP HL.out.1 HL.out.2.1 HL.out.2.2.1 HL.out.2.2.2 (by rw[hn];exact FF.out),OO.out⟩
 obtain⟨hL,hI,hT,_⟩:=HL.out;have HLL:=hid hL;rcases hlast:l.getLast? with _|x
 focus
  have hl0:l.length=0:=by rw[List.getLast?_eq_none_iff.1 hlast];rfl
  obtain rfl:res=(⟨tol,l ++ [⟨a,bb,c,d⟩]⟩,0):=by have:=HE.out;simpa [vK,hlast,hl0] using this
  have HP:=hid (F6 (s:=⟨a,bb,c,d⟩) hL hI hT (by omega));have d0:decide ((0:Int)<(n:Int))=false:=by simp;omega
  have d0':decide (0<n)=false:=by simp;omega
  have n8:((n:Int) == 8)=false:=by rw[beq_eq_false_iff_ne];omega
  have n8i:(n:Int)<8:=by omega
  have n8n:n<8:=by omega
  have hnw:IntKind.i64.wrap ((n:Int)+1)=(n:Int)+1:=by rw[IntKind.wrap_i64];omega
  rw[hn] at HP;have HN:=hid hn;clear HE hlast hL hI hT h8 hl0;go_enter Tryz.func232,Tryz.ntmps232
  go_upto_region 1 with (fail)
  refine aF (G:=fun w0=>Code.wp _ _ _ _ w0) ?_;intro w1 hb1 ho1 hs1;obtain⟨b1,hbe1⟩:∃ b,w.heap.size=b:=⟨_,rfl⟩;rw[hbe1] at hb1;rw[hbe1];have HN:Hid (w.heap.size<=b1):=hid (by omega);have B1:=hid hb1;have OO:=hid ho1;clear hb1 hs1 hbe1;replace OO:=hid (ho1.weak (S':=[b]) (by simp));replace FF:=hid (ho1.got FF.out (by simp));clear ho1;have k1:=tZ B1.out;have c33:w1.cell? ⟨b,33,none⟩=some (.int .i64 (n:Int)):=by rw[aA FF.out,List.getElem?_toArray];exact gV HL.out.1
  have lb:=aD FF.out;go_wp2_with fail
  refine (HC.out _).mono ?_;rintro e w2 ⟨rfl,ho⟩;clear k1 c33 lb;replace OO:=hid (OO.out.aB ho);replace B1:=hid (ho.got B1.out (by simp));replace FF:=hid (ho.got FF.out (by simp));clear ho;have k1:=tZ B1.out;have c33:w2.cell? ⟨b,33,none⟩=some (.int .i64 (n:Int)):=by rw[aA FF.out,List.getElem?_toArray];exact gV HL.out.1
  have lb:=aD FF.out;go_upto_region 6 with (fail)
  refine aL [0,1,2,3,4,5,6,7,8,9,10,11,12,13,14,15,16,17,18,19,20] [] (by kernel_rfl) (by kernel_rfl) ?_;simp only[pick,map_cons,map_nil,getD_cons_succ,getD_cons_zero];iterate 6 (refine wpQuiet_step (fun K hK=>?_);go_simp;refine hK _ ?_;clear hK K)
  repeat (go_big_quiet_step (fail))
  refine wpQuiet_nil ?_;intro w3 hw;have ho:=aI hw;clear hw;clear k1 c33 lb;replace OO:=hid (OO.out.aB ho);replace B1:=hid (ho.got B1.out (by simp));replace FF:=hid (ho.got FF.out (by simp));have k1:=tZ B1.out;have c33:w3.cell? ⟨b,33,none⟩=some (.int .i64 (n:Int)):=by rw[aA FF.out,List.getElem?_toArray];exact gV HL.out.1
  have lb:=aD FF.out;clear ho
 rotate_left
 focus
  obtain⟨j,hj,hjl,hx⟩:=YN hlast;obtain⟨x1,x2,x3,x4⟩:=x;have d0:decide ((0:Int)<(n:Int))=true:=by simp;omega
  have d0':decide (0<n)=true:=by simp;omega
  have hjw:IntKind.i64.wrap ((n:Int)-1)=(j:Int):=by rw[IntKind.wrap_i64];omega
  have j8:(j:Int)<8:=by omega
  have j8n:j<8:=by omega
  have HXL:Hid (L[j*4+3]? = some (.int .i64 x4)):=hid (by rw[Y6 hT hjl 3 (by omega),hx];rfl);rw[hlast] at HE;dsimp only at HE;by_cases hle:d<=x4
  focus
   obtain rfl:res=(⟨tol,l⟩,12):=by have:=HE.out;simpa [hle] using this
   have q1:decide (d<=x4)=true:=dF hle;clear HE hlast hx hjl hT hI hL;go_enter Tryz.func232,Tryz.ntmps232
   go_upto_region 1 with (fail)
   refine aF (G:=fun w0=>Code.wp _ _ _ _ w0) ?_;intro w1 hb1 ho1 hs1;obtain⟨b1,hbe1⟩:∃ b,w.heap.size=b:=⟨_,rfl⟩;rw[hbe1] at hb1;rw[hbe1];have HN:Hid (w.heap.size<=b1):=hid (by omega);have B1:=hid hb1;have OO:=hid ho1;clear hb1 hs1 hbe1;replace OO:=hid (ho1.weak (S':=[b]) (by simp));replace FF:=hid (ho1.got FF.out (by simp));clear ho1;have k1:=tZ B1.out;have c33:w1.cell? ⟨b,33,none⟩=some (.int .i64 (n:Int)):=by rw[aA FF.out,List.getElem?_toArray];exact gV HL.out.1
   have lb:=aD FF.out;go_wp2_with fail
   refine (HC.out _).mono ?_;rintro e w2 ⟨rfl,ho⟩;clear k1 c33 lb;replace OO:=hid (OO.out.aB ho);replace B1:=hid (ho.got B1.out (by simp));replace FF:=hid (ho.got FF.out (by simp));clear ho;have k1:=tZ B1.out;have c33:w2.cell? ⟨b,33,none⟩=some (.int .i64 (n:Int)):=by rw[aA FF.out,List.getElem?_toArray];exact gV HL.out.1
   have lb:=aD FF.out;go_upto_region 6 with (fail)
   have cl:w2.cell? ⟨b,1+j*4+3,none⟩=some (.int .i64 x4):=by rw[aA FF.out,List.getElem?_toArray,Nat.add_assoc,<-HXL.out];exact wO HLL.out (by omega)
   refine aL [0,1,2,3,4,5,6,7,8,9,10,11,12,13,14,15,16,17,18,19,20] [] (by kernel_rfl) (by kernel_rfl) ?_;simp only[pick,map_cons,map_nil,getD_cons_succ,getD_cons_zero];iterate 6 (refine wpQuiet_step (fun K hK=>?_);go_simp;refine hK _ ?_;clear hK K)
   repeat (go_big_quiet_step (fail))
   refine wpQuiet_nil ?_;intro w3 hw;have ho:=aI hw;clear hw;clear k1 c33 lb;replace OO:=hid (OO.out.aB ho);replace B1:=hid (ho.got B1.out (by simp));replace FF:=hid (ho.got FF.out (by simp));have k1:=tZ B1.out;have c33:w3.cell? ⟨b,33,none⟩=some (.int .i64 (n:Int)):=by rw[aA FF.out,List.getElem?_toArray];exact gV HL.out.1
   have lb:=aD FF.out;clear ho;clear cl;go_wp2;go_ret
   exact⟨rfl,EP HL.out.1 HL.out.2.1 HL.out.2.2.1 HL.out.2.2.2 (by rw[hn];exact FF.out),OO.out⟩
  focus
   have q1:decide (d<=x4)=false:=bR hle;by_cases h7:n<8
   rotate_left
   focus
    obtain rfl:n=8:=by omega
    obtain rfl:j=7:=by omega
    obtain rfl:res=(⟨tol,l.drop 1 ++ [⟨a,bb,c,d⟩]⟩,0):=by have:=HE.out;rw[if_pos rfl,if_neg hle] at this;rw[this];unfold vK;rw[if_pos hn]
    have HSH:=hid (U7 hL hI hT hn);have hk:(l.drop 1).length=7:=by rw[List.length_drop];omega
    have HP:=hid (F6 (s:=⟨a,bb,c,d⟩) HSH.out.1 HSH.out.2.1 HSH.out.2.2 (by omega));have HLS:=hid HSH.out.1
    have HCP:Hid (∀ i v,((L.drop 4).take 28)[i]? = some v->(jO tol L 8 sh la)[5+i]? = some v):=hid (by
     intro i v h;rw[List.getElem?_take] at h;split at h
     ·rw[List.getElem?_drop] at h
      rw[show 5+i=1+(4+i) by omega,wO hL (by omega)];exact h
     ·cases h)
    have HC1:Hid (∀ v∈(L.drop 4).take 28,v.oneCell'=true):=hid (fun v hv=>by
     obtain⟨z,rfl⟩:=hI v (List.mem_of_mem_drop (List.mem_of_mem_take hv));rfl)
    have HCL:Hid (((L.drop 4).take 28).length=28):=hid (by simp;omega)
    have HCE:Hid ((jO tol L 8 sh la).take 1 ++ ((L.drop 4).take 28 ++ (jO tol L 8 sh la).drop (1+28))=jO tol ((L.drop 4).take 28 ++ L.drop 28) 8 sh la):=hid (by
     unfold jO;rw[show 1+28=28+1 from rfl,List.drop_succ_cons,List.drop_append_of_le_length (by omega)];simp[List.append_assoc])
    generalize (L.drop 4).take 28=cp at HCP HC1 HCL HCE HP HSH HLS;obtain⟨LS,hLS⟩:∃ LS,cp ++ L.drop 28=LS:=⟨_,rfl⟩;rw[hLS] at HP HSH HCE HLS;rw[hk] at HP;replace HP:=hid (by simpa only[Nat.reduceMul,Nat.reduceAdd] using HP.out);have HK:=hid hk;clear HE hlast hx hjl hT hI hL h8 hj hLS hjw j8 j8n d0 d0' h7 hk;go_enter Tryz.func232,Tryz.ntmps232
    go_upto_region 1 with (fail)
    refine aF (G:=fun w0=>Code.wp _ _ _ _ w0) ?_;intro w1 hb1 ho1 hs1;obtain⟨b1,hbe1⟩:∃ b,w.heap.size=b:=⟨_,rfl⟩;rw[hbe1] at hb1;rw[hbe1];have HN:Hid (w.heap.size<=b1):=hid (by omega);have B1:=hid hb1;have OO:=hid ho1;clear hb1 hs1 hbe1;replace OO:=hid (ho1.weak (S':=[b]) (by simp));replace FF:=hid (ho1.got FF.out (by simp));clear ho1;have k1:=tZ B1.out;have c33:w1.cell? ⟨b,33,none⟩=some (.int .i64 8):=by rw[aA FF.out,List.getElem?_toArray];exact gV HL.out.1
    have lb:=aD FF.out;go_wp2_with fail
    refine (HC.out _).mono ?_;rintro e w2 ⟨rfl,ho⟩;clear k1 c33 lb;replace OO:=hid (OO.out.aB ho);replace B1:=hid (ho.got B1.out (by simp));replace FF:=hid (ho.got FF.out (by simp));clear ho;have k1:=tZ B1.out;have c33:w2.cell? ⟨b,33,none⟩=some (.int .i64 8):=by rw[aA FF.out,List.getElem?_toArray];exact gV HL.out.1
    have lb:=aD FF.out;go_upto_region 6 with (fail)
    have cl:w2.cell? ⟨b,32,none⟩=some (.int .i64 x4):=by rw[aA FF.out,List.getElem?_toArray,<-HXL.out];exact wO (j:=31) HLL.out (by omega)
    refine aL [0,1,2,3,4,5,6,7,8,9,10,11,12,13,14,15,16,17,18,19,20] [] (by kernel_rfl) (by kernel_rfl) ?_;simp only[pick,map_cons,map_nil,getD_cons_succ,getD_cons_zero];iterate 6 (refine wpQuiet_step (fun K hK=>?_);go_simp;refine hK _ ?_;clear hK K)
    repeat (go_big_quiet_step (fail))
    refine wpQuiet_nil ?_;intro w3 hw;have ho:=aI hw;clear hw;clear k1 c33 lb;replace OO:=hid (OO.out.aB ho);replace B1:=hid (ho.got B1.out (by simp));replace FF:=hid (ho.got FF.out (by simp));have k1:=tZ B1.out;have c33:w3.cell? ⟨b,33,none⟩=some (.int .i64 8):=by rw[aA FF.out,List.getElem?_toArray];exact gV HL.out.1
    have lb:=aD FF.out;clear ho;clear cl;go_upto_region 9 with (fail)
    refine aL [0,1,2,3,4,5,6,7] [8] (by kernel_rfl) (by kernel_rfl) ?_;simp only[pick,map_cons,map_nil,getD_cons_succ,getD_cons_zero];iterate 8 (refine wpQuiet_step (fun K hK=>?_);go_simp;refine hK _ ?_;clear hK K)
    refine wpQuiet_nil ?_;intro w4 hw;have ho:=aI hw;clear hw;clear k1 c33 lb;replace OO:=hid (OO.out.aB ho);replace B1:=hid (ho.got B1.out (by simp));replace FF:=hid (ho.got FF.out (by simp));have k1:=tZ B1.out;have c33:w4.cell? ⟨b,33,none⟩=some (.int .i64 8):=by rw[aA FF.out,List.getElem?_toArray];exact gV HL.out.1
    have lb:=aD FF.out;clear ho;refine vT rfl _ _ 371 371 rfl 180 4 7 Tryz.underlying371 (by kernel_rfl) b 1 8 8 ⟨b,5,none⟩ 7 7 rfl rfl _ _ FF.out cp (by decide) HCL.out (fun i v h=>by rw[addr_add,aA FF.out,List.getElem?_toArray];exact HCP.out i v h) (by rw[HCL.out,List.size_toArray,kH HLL.out];omega) HC1.out ?_;refine kP (G:=fun w0=>wpList _ _ _ _ _ w0) (R:=fun w5=>w5.heap[b]? = some (.cells (jO tol LS 8 sh la).toArray 183 (0,0))/\w5.heap[b1]? = w4.heap[b1]? /\ Only [b] w w5) ?_ ?_
    ·refine⟨?_,setRow_other _ _ _ _ (by have:=HN.out;have:=HBL.out;omega),OO.out.trans (S':=[b]) ⟨rfl,rfl,rfl,by simp[World.setRow],fun q _ hq=>setRow_other _ _ q _ (fun e=>hq (by simp[e]))⟩ (by simp)⟩
     have hse:=HCE.out;rw[HCL.out];have h5:=setRow_heap w4 b _ ((jO tol L 8 sh la).take 1 ++ (cp ++ (jO tol L 8 sh la).drop (1+28))).toArray _ _ FF.out;rw[HCE.out] at h5;rw[<-HCE.out] at h5 |-;exact h5
    rintro w5 ⟨hf2,hb2,ho2⟩;clear k1 c33 lb;replace B1:=hid (hb2.trans B1.out);replace FF:=hid hf2;replace OO:=hid ho2;clear hf2 hb2 ho2 HCP HC1 HCL HCE;have c33:w5.cell? ⟨b,33,none⟩=some (.int .i64 8):=by rw[aA FF.out,List.getElem?_toArray];exact gV HLS.out
    have z33:=aM FF.out 33;have lb:=aD FF.out;go_upto_region 11 with (fail)
    refine kP (G:=fun w0=>Code.wp _ _ _ _ w0) (R:=fun w6=>w6.heap[b]? = some (.cells (jO tol LS 7 sh la).toArray 183 (0,0))/\w6.heap[b1]? = w5.heap[b1]? /\ Only [b] w w6) ⟨BQ HLS.out FF.out,(iK _ B1.out (by have:=HN.out;have:=HBL.out;simp only;omega)).trans B1.out.symm,OO.out.setCell (.inl (by simp)) _⟩ ?_;rintro w6 ⟨hf2,hb2,ho2⟩;clear c33 z33 lb;replace B1:=hid (hb2.trans B1.out);replace FF:=hid hf2;replace OO:=hid ho2;clear hf2 hb2 ho2;have k1:=tZ B1.out;have c33:w6.cell? ⟨b,33,none⟩=some (.int .i64 7):=by rw[aA FF.out,List.getElem?_toArray];exact gV HLS.out
    have lb:=aD FF.out;refine aL [0,1,2,3,4,5,6,7,8] [9] (by kernel_rfl) (by kernel_rfl) ?_;simp only[pick,map_cons,map_nil,getD_cons_succ,getD_cons_zero];iterate 9 (refine wpQuiet_step (fun K hK=>?_);go_simp;refine hK _ ?_;clear hK K)
    refine wpQuiet_nil ?_;intro w7 hw;have ho:=aI hw;clear hw;clear k1 c33 lb;replace OO:=hid (OO.out.aB ho);replace B1:=hid (ho.got B1.out (by simp));replace FF:=hid (ho.got FF.out (by simp));have k1:=tZ B1.out;have c33:w7.cell? ⟨b,33,none⟩=some (.int .i64 7):=by rw[aA FF.out,List.getElem?_toArray];exact gV HLS.out
    have lb:=aD FF.out;clear ho;have zf:∀ o,w7.frozen? ⟨b,o,none⟩=false:=fun o=>aM FF.out o;obtain⟨v0,s0⟩:∃ v,w7.cell? ⟨b,29,none⟩=some v:=by rw[aA FF.out,List.getElem?_toArray];exact⟨_,getElem?_eq_getElem (by rw[kH HLS.out];omega)⟩
    obtain⟨v1,s1⟩:∃ v,w7.cell? ⟨b,30,none⟩=some v:=by rw[aA FF.out,List.getElem?_toArray];exact⟨_,getElem?_eq_getElem (by rw[kH HLS.out];omega)⟩
    obtain⟨v2,s2⟩:∃ v,w7.cell? ⟨b,31,none⟩=some v:=by rw[aA FF.out,List.getElem?_toArray];exact⟨_,getElem?_eq_getElem (by rw[kH HLS.out];omega)⟩
    obtain⟨v3,s3⟩:∃ v,w7.cell? ⟨b,32,none⟩=some v:=by rw[aA FF.out,List.getElem?_toArray];exact⟨_,getElem?_eq_getElem (by rw[kH HLS.out];omega)⟩
    go_upto_region 12 with (fail)
    refine kP (G:=fun w0=>Code.wp _ _ _ _ w0) (R:=fun w8=>w8.heap[b]? = some (.cells (jO tol (LS.take 28 ++ jR ⟨a,bb,c,d⟩ ++ LS.drop 32) 7 sh la).toArray 183 (0,0))/\Only [b] w w8) ⟨TD HLS.out FF.out,(((OO.out.setCell (.inl (by simp)) _).setCell (.inl (by simp)) _).setCell (.inl (by simp)) _).setCell (.inl (by simp)) _⟩ ?_;rintro w8 ⟨hf2,ho2⟩;clear k1 c33 lb;clear zf s0 s1 s2 s3;replace FF:=hid hf2;replace OO:=hid ho2;clear hf2 ho2 B1;have c33:w8.cell? ⟨b,33,none⟩=some (.int .i64 (7:Int)):=by rw[aA FF.out,List.getElem?_toArray];exact gV HP.out.1
    have z33:=aM FF.out 33;have lb:=aD FF.out;go_upto_region 13 with (fail)
    refine kP (G:=fun w0=>Code.wp _ _ _ _ w0) (R:=fun w9=>w9.heap[b]? = some (.cells (jO tol (LS.take 28 ++ jR ⟨a,bb,c,d⟩ ++ LS.drop 32) ((7:Int)+1) sh la).toArray 183 (0,0))/\Only [b] w w9) ⟨BQ HP.out.1 FF.out,OO.out.setCell (.inl (by simp)) _⟩ ?_;rintro w9 ⟨hf2,ho2⟩;clear c33 z33 lb;replace FF:=hid hf2;replace OO:=hid ho2;clear hf2 ho2;go_wp2;go_ret
    exact⟨rfl,EP HP.out.1 HP.out.2.1 HP.out.2.2 (by rw[length_append,HK.out];exact Nat.le_refl 8) (by rw[show (((l.drop 1 ++ [(⟨a,bb,c,d⟩:iM)]).length:Nat):Int)=7+1 by rw[length_append,HK.out];rfl];exact FF.out),OO.out⟩
  rotate_left
  obtain rfl:res=(⟨tol,l ++ [⟨a,bb,c,d⟩]⟩,0):=by have:=HE.out;rw[if_pos rfl,if_neg hle] at this;rw[this];unfold vK;rw[if_neg (by dsimp only;omega)]
  have HP:=hid (F6 (s:=⟨a,bb,c,d⟩) hL hI hT (by omega));have n8:((n:Int) == 8)=false:=by rw[beq_eq_false_iff_ne];omega
  have n8i:(n:Int)<8:=by omega
  have hnw:IntKind.i64.wrap ((n:Int)+1)=(n:Int)+1:=by rw[IntKind.wrap_i64];omega
  rw[hn] at HP;have HN:=hid hn;clear HE hlast hx hjl hT hI hL h8 hj;go_enter Tryz.func232,Tryz.ntmps232
  go_upto_region 1 with (fail)
  refine aF (G:=fun w0=>Code.wp _ _ _ _ w0) ?_;intro w1 hb1 ho1 hs1;obtain⟨b1,hbe1⟩:∃ b,w.heap.size=b:=⟨_,rfl⟩;rw[hbe1] at hb1;rw[hbe1];have HN:Hid (w.heap.size<=b1):=hid (by omega);have B1:=hid hb1;have OO:=hid ho1;clear hb1 hs1 hbe1;replace OO:=hid (ho1.weak (S':=[b]) (by simp));replace FF:=hid (ho1.got FF.out (by simp));clear ho1;have k1:=tZ B1.out;have c33:w1.cell? ⟨b,33,none⟩=some (.int .i64 (n:Int)):=by rw[aA FF.out,List.getElem?_toArray];exact gV HL.out.1
  have lb:=aD FF.out;go_wp2_with fail
  refine (HC.out _).mono ?_;rintro e w2 ⟨rfl,ho⟩;clear k1 c33 lb;replace OO:=hid (OO.out.aB ho);replace B1:=hid (ho.got B1.out (by simp));replace FF:=hid (ho.got FF.out (by simp));clear ho;have k1:=tZ B1.out;have c33:w2.cell? ⟨b,33,none⟩=some (.int .i64 (n:Int)):=by rw[aA FF.out,List.getElem?_toArray];exact gV HL.out.1
  have lb:=aD FF.out;go_upto_region 6 with (fail)
  have cl:w2.cell? ⟨b,1+j*4+3,none⟩=some (.int .i64 x4):=by rw[aA FF.out,List.getElem?_toArray,Nat.add_assoc,<-HXL.out];exact wO HLL.out (by omega)
  refine aL [0,1,2,3,4,5,6,7,8,9,10,11,12,13,14,15,16,17,18,19,20] [] (by kernel_rfl) (by kernel_rfl) ?_;simp only[pick,map_cons,map_nil,getD_cons_succ,getD_cons_zero];iterate 6 (refine wpQuiet_step (fun K hK=>?_);go_simp;refine hK _ ?_;clear hK K)
  repeat (go_big_quiet_step (fail))
  refine wpQuiet_nil ?_;intro w3 hw;have ho:=aI hw;clear hw;clear k1 c33 lb;replace OO:=hid (OO.out.aB ho);replace B1:=hid (ho.got B1.out (by simp));replace FF:=hid (ho.got FF.out (by simp));have k1:=tZ B1.out;have c33:w3.cell? ⟨b,33,none⟩=some (.int .i64 (n:Int)):=by rw[aA FF.out,List.getElem?_toArray];exact gV HL.out.1
  have lb:=aD FF.out;clear ho;clear cl hjw j8
 rotate_left
 all_goals
  go_upto_region 11 with (fail)
  refine aL [0,1,2,3,4,5,6,7,8] [9] (by kernel_rfl) (by kernel_rfl) ?_;simp only[pick,map_cons,map_nil,getD_cons_succ,getD_cons_zero];iterate 9 (refine wpQuiet_step (fun K hK=>?_);go_simp;refine hK _ ?_;clear hK K)
  refine wpQuiet_nil ?_;intro w4 hw;have ho:=aI hw;clear hw;clear k1 c33 lb;replace OO:=hid (OO.out.aB ho);replace B1:=hid (ho.got B1.out (by simp));replace FF:=hid (ho.got FF.out (by simp));have k1:=tZ B1.out;have c33:w4.cell? ⟨b,33,none⟩=some (.int .i64 (n:Int)):=by rw[aA FF.out,List.getElem?_toArray];exact gV HL.out.1
  have lb:=aD FF.out;clear ho;have zf:∀ o,w4.frozen? ⟨b,o,none⟩=false:=fun o=>aM FF.out o;obtain⟨v0,s0⟩:∃ v,w4.cell? ⟨b,1+n*4,none⟩=some v:=by rw[aA FF.out,List.getElem?_toArray];exact⟨_,getElem?_eq_getElem (by rw[kH HLL.out];omega)⟩
  obtain⟨v1,s1⟩:∃ v,w4.cell? ⟨b,1+n*4+1,none⟩=some v:=by rw[aA FF.out,List.getElem?_toArray];exact⟨_,getElem?_eq_getElem (by rw[kH HLL.out];omega)⟩
  obtain⟨v2,s2⟩:∃ v,w4.cell? ⟨b,1+n*4+2,none⟩=some v:=by rw[aA FF.out,List.getElem?_toArray];exact⟨_,getElem?_eq_getElem (by rw[kH HLL.out];omega)⟩
  obtain⟨v3,s3⟩:∃ v,w4.cell? ⟨b,1+n*4+3,none⟩=some v:=by rw[aA FF.out,List.getElem?_toArray];exact⟨_,getElem?_eq_getElem (by rw[kH HLL.out];omega)⟩
  go_upto_region 12 with (fail)
  refine kP (G:=fun w0=>Code.wp _ _ _ _ w0) (R:=fun w5=>w5.heap[b]? = some (.cells (jO tol (L.take (n*4) ++ jR ⟨a,bb,c,d⟩ ++ L.drop (n*4+4)) n sh la).toArray 183 (0,0))/\Only [b] w w5) ⟨KC HLL.out (by omega) FF.out,(((OO.out.setCell (.inl (by simp)) _).setCell (.inl (by simp)) _).setCell (.inl (by simp)) _).setCell (.inl (by simp)) _⟩ ?_;rintro w5 ⟨hf2,ho2⟩;clear k1 c33 lb;clear zf s0 s1 s2 s3;replace FF:=hid hf2;replace OO:=hid ho2;clear hf2 ho2 B1;have c33:w5.cell? ⟨b,33,none⟩=some (.int .i64 (n:Int)):=by rw[aA FF.out,List.getElem?_toArray];exact gV HP.out.1
  have z33:=aM FF.out 33;have lb:=aD FF.out;go_upto_region 13 with (fail)
  refine kP (G:=fun w0=>Code.wp _ _ _ _ w0) (R:=fun w6=>w6.heap[b]? = some (.cells (jO tol (L.take (n*4) ++ jR ⟨a,bb,c,d⟩ ++ L.drop (n*4+4)) ((n:Int)+1) sh la).toArray 183 (0,0))/\Only [b] w w6) ⟨BQ HP.out.1 FF.out,OO.out.setCell (.inl (by simp)) _⟩ ?_;rintro w6 ⟨hf2,ho2⟩;clear c33 z33 lb;replace FF:=hid hf2;replace OO:=hid ho2;clear hf2 ho2;go_wp2;go_ret
  exact⟨rfl,EP HP.out.1 HP.out.2.1 HP.out.2.2 (by simp only[length_append,length_cons,length_nil];omega) (by rw[show ((l ++ [(⟨a,bb,c,d⟩:iM)]).length:Int)=(n:Int)+1 by simp[hn]];have:=FF.out;rw[<-hn] at this |-;exact this),OO.out⟩
end
end Go.Proofs.YthbgcpfklmlnjaaGreat
