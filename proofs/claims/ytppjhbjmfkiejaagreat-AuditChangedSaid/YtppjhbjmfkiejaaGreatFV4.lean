/- Texts of one chain: Ma, Mb, Mc, Md, Me, Mf. Conditions: those named in each theorem. -/
import Derived.Test.YtppjhbjmfkiejaaGreatFV1
import Derived.Test.YtppjhbjmfkiejaaGreatFV2
import Derived.Carry
import Derived.Test.YtppjhbjmfkiejaaGreatSortF
import Derived.Deep.RegionLaw
import Derived.Shelf.RegionOpenPlain
import Derived.Lib.SliceRun
namespace Go.Proofs.YtppjhbjmfkiejaaGreat
open List (getElem?_eq_getElem getElem?_eq_none length_append length_take mem_cons)
set_option maxRecDepth 100000
set_option maxHeartbeats 4000000
section
open Go.RowKit
structure Cd where
 id:Int
 off:Int
 dist:Int
 jit:Int
 str:Int
deriving DecidableEq,Inhabited
def iZ (c:Cd):List Value:=[.int .i64 c.id,.int .i64 c.off,.int .i64 c.dist,.int .i64 c.jit,.int .i64 c.str]
def yJ (c:Cd):Value:=.agg #[.int .i64 c.id,.int .i64 c.off,.int .i64 c.dist,.int .i64 c.jit,.int .i64 c.str]
theorem dQ (c:Cd):(iZ c).length=5:=rfl
def CO (c:Cd):Bool:=decide (0<=c.id/\c.id<=2147483647/\ -4503599627370496<=c.off/\c.off<=4503599627370496/\0<=c.dist/\c.dist<=9007199254740992/\0<=c.jit/\c.jit<=9007199254740992/\1<=c.str/\c.str<=16)
def DL (s:List Int):List Cd->Int
 | []=>0
 | c::r=>if CO c=true then (if c.id∈s then 10 else DL (c.id::s) r) else 3
def I9 (l:List Cd):Int:=if 12<l.length then 6 else DL [] l
theorem RU:∀ (l:List Cd) (s:List Int),DL s l=0↔(∀ c∈l,CO c=true)/\(l.map Cd.id).Nodup/\∀ c∈l,c.id ∉ s
 | [],s=>by simp[DL]
 | c :: r,s=>by
  unfold DL;by_cases h:CO c=true
  ·rw[if_pos h]
   by_cases hm:c.id∈s
   ·rw[if_pos hm]
    refine⟨fun e=>absurd e (by decide),fun e=>absurd hm (e.2.2 c (List.mem_cons_self ..))⟩
   ·rw[if_neg hm,RU r]
    simp only[mem_cons,forall_eq_or_imp,List.map_cons,List.nodup_cons,List.mem_map,not_exists,not_and,not_or];constructor
    ·rintro⟨h1,h2,h3⟩
     exact⟨⟨h,h1⟩,⟨fun x hx e=>(h3 x hx).1 e,h2⟩,hm,fun x hx=>(h3 x hx).2⟩
    ·rintro⟨⟨_,h1⟩,⟨h2,h3⟩,_,h4⟩
     exact⟨h1,h3,fun x hx=>⟨fun e=>h2 x hx e,h4 x hx⟩⟩
  ·rw[if_neg h]
   exact⟨fun e=>absurd e (by decide),fun e=>absurd (e.1 c (List.mem_cons_self ..)) h⟩
structure Gd (l:List Cd):Prop where
 len:l.length<=12
 ok:∀ c∈l,CO c=true
 nd:(l.map Cd.id).Nodup
theorem mV {l:List Cd}:I9 l=0↔Gd l:=by
 unfold I9;by_cases h:12<l.length
 ·rw[if_pos h];exact⟨fun e=>absurd e (by decide),fun e=>absurd e.len (by omega)⟩
 ·rw[if_neg h,RU]
  exact⟨fun e=>⟨by omega,e.1,e.2.1⟩,fun e=>⟨e.ok,e.nd,fun _ _=>by simp⟩⟩
theorem Gd.sub {l l':List Cd} (h:Gd l) (hs:l'.Sublist l):Gd l':=
 ⟨Nat.le_trans hs.length_le h.len,fun c hc=>h.ok c (hs.subset hc),(hs.map Cd.id).nodup h.nd⟩
theorem Gd.perm {l l':List Cd} (h:Gd l) (hs:l'.Perm l):Gd l':=
 ⟨by rw[hs.length_eq];exact h.len,fun c hc=>h.ok c (hs.subset hc),((hs.map Cd.id).nodup_iff).2 h.nd⟩
theorem iM {c:Cd} (h:CO c=true):0<=c.id/\c.id<=2147483647/\ -4503599627370496<=c.off/\c.off<=4503599627370496/\0<=c.dist/\c.dist<=9007199254740992/\0<=c.jit/\c.jit<=9007199254740992/\1<=c.str/\c.str<=16:=of_decide_eq_true h
theorem pValid (c:Cd) (w:World) :
  Calls Tryz.prog 280 #[yJ c] w fun e w'=>e=.returned (.bool (CO c))/\Oy [] w w':=by
 obtain⟨id,of,di,ji,st⟩:=c;unfold CO yJ;dsimp only;obtain⟨res,hres⟩:∃ res,res=decide (0<=id/\id<=2147483647/\ -4503599627370496<=of/\of<=4503599627370496/\0<=di/\di<=9007199254740992/\0<=ji/\ji<=9007199254740992/\1<=st/\st<=16):=⟨_,rfl⟩;rw[<-hres];have HR:=aA hres;clear hres;by_cases h0:0<=id
 focus
  have x0:decide (0<=id)=true:=eY h0;by_cases h1:id<=2147483647
  focus
   have x1:decide (id<=2147483647)=true:=eY h1;by_cases h2: -4503599627370496<=of
   focus
    have x2:decide (-4503599627370496<=of)=true:=eY h2;by_cases h3:of<=4503599627370496
    focus
     have x3:decide (of<=4503599627370496)=true:=eY h3;by_cases h4:0<=di
     focus
      have x4:decide (0<=di)=true:=eY h4;by_cases h5:di<=9007199254740992
      focus
       have x5:decide (di<=9007199254740992)=true:=eY h5;by_cases h6:0<=ji
       focus
        have x6:decide (0<=ji)=true:=eY h6;by_cases h7:ji<=9007199254740992
        focus
         have x7:decide (ji<=9007199254740992)=true:=eY h7;by_cases h8:1<=st
         focus
          have x8:decide (1<=st)=true:=eY h8;by_cases h9:st<=16
          focus
           have x9:decide (st<=16)=true:=eY h9;obtain rfl:res=true:=by rw[HR.out];exact decide_eq_true ⟨h0,h1,h2,h3,h4,h5,h6,h7,h8,h9⟩
          rotate_left
          focus
           have x9:decide (st<=16)=false:=dL h9;obtain rfl:res=false:=by rw[HR.out];exact dL (fun h=>h9 h.2.2.2.2.2.2.2.2.2)
          rotate_left
         rotate_left 2
         focus
          have x8:decide (1<=st)=false:=dL h8;obtain rfl:res=false:=by rw[HR.out];exact dL (fun h=>h8 h.2.2.2.2.2.2.2.2.1)
         rotate_left
        rotate_left 3
        focus
         have x7:decide (ji<=9007199254740992)=false:=dL h7;obtain rfl:res=false:=by rw[HR.out];exact dL (fun h=>h7 h.2.2.2.2.2.2.2.1)
        rotate_left
       rotate_left 4
       focus
        have x6:decide (0<=ji)=false:=dL h6;obtain rfl:res=false:=by rw[HR.out];exact dL (fun h=>h6 h.2.2.2.2.2.2.1)
       rotate_left
      rotate_left 5
      focus
       have x5:decide (di<=9007199254740992)=false:=dL h5;obtain rfl:res=false:=by rw[HR.out];exact dL (fun h=>h5 h.2.2.2.2.2.1)
      rotate_left
     rotate_left 6
     focus
      have x4:decide (0<=di)=false:=dL h4;obtain rfl:res=false:=by rw[HR.out];exact dL (fun h=>h4 h.2.2.2.2.1)
     rotate_left
    rotate_left 7
    focus
     have x3:decide (of<=4503599627370496)=false:=dL h3;obtain rfl:res=false:=by rw[HR.out];exact dL (fun h=>h3 h.2.2.2.1)
    rotate_left
   rotate_left 8
   focus
    have x2:decide (-4503599627370496<=of)=false:=dL h2;obtain rfl:res=false:=by rw[HR.out];exact dL (fun h=>h2 h.2.2.1)
   rotate_left
  rotate_left 9
  focus
   have x1:decide (id<=2147483647)=false:=dL h1;obtain rfl:res=false:=by rw[HR.out];exact dL (fun h=>h1 h.2.1)
  rotate_left
 rotate_left 10
 focus
  have x0:decide (0<=id)=false:=dL h0;obtain rfl:res=false:=by rw[HR.out];exact dL (fun h=>h0 h.1)
 rotate_left
 all_goals
  clear HR;go_enter Tryz.func280,Tryz.ntmps280
  go_upto_region 1 with (fail)
  refine aG (G:=fun w0=>Code.wp _ _ _ _ w0) ?_;intro w1 hb1 ho1 hs1;have B1:=aA hb1;have O1:=aA ho1;clear hb1 ho1 hs1;have k0:=aC B1.out 0;have k1:=aC B1.out 1;have k2:=aC B1.out 2;have k3:=aC B1.out 3;have k4:=aC B1.out 4;have lk:=aF B1.out;go_wp2;go_ret
  exact⟨rfl,O1.out⟩
end
section
open Go.RowKit
theorem aU.cd {w w':World} {p:Option Addr} {n cap:Nat} {l:List Cd} (hv:aU iZ 5 w p n cap l) (ho:Oy [] w w') {k:Nat} (hlt:k<l.length):∃ b off,p=some ⟨b,off,none⟩/\b<w.heap.size /\
  w'.cell? ⟨b,off+k*5,none⟩=some (.int .i64 l[k].id)/\w'.cell? ⟨b,off+k*5+1,none⟩=some (.int .i64 l[k].off)/\w'.cell? ⟨b,off+k*5+2,none⟩=some (.int .i64 l[k].dist)/\w'.cell? ⟨b,off+k*5+3,none⟩=some (.int .i64 l[k].jit)/\w'.cell? ⟨b,off+k*5+4,none⟩=some (.int .i64 l[k].str):=by
 obtain⟨b,off,hp,hb,hc⟩:=hv.cell k l[k] (getElem?_eq_getElem hlt);refine⟨b,off,hp,hb,?_,?_,?_,?_,?_⟩
 ·rw[ho.cell hb (by simp)];exact hc 0 _ rfl
 ·rw[ho.cell hb (by simp)];exact hc 1 _ rfl
 ·rw[ho.cell hb (by simp)];exact hc 2 _ rfl
 ·rw[ho.cell hb (by simp)];exact hc 3 _ rfl
 ·rw[ho.cell hb (by simp)];exact hc 4 _ rfl
def snF (s:List Int) (k:Int):Option Bool:=if k∈s then some true else none
theorem WT (s:List Int) (x:Int):(fun k'=>if k'=x then some true else snF s k')=snF (x::s):=by
 funext k'
 unfold snF;by_cases h:k'=x
 ·rw[if_pos h,if_pos (by simp[h])]
 ·rw[if_neg h]
  by_cases h2:k'∈s
  ·rw[if_pos h2,if_pos (by simp[h2])]
  ·rw[if_neg h2,if_neg (by simp[h,h2])]
def ChkI (w:World) (b:Nat) (l:List Cd) (vi:Value) (wr:World):Prop:=
 ∃ (k:Nat) (s:List Int),k<=l.length/\vi=.int .i64 k/\DL [] l=DL s (l.drop k)/\mI (fun n:Int=>Value.int .i64 n) Value.bool wr b (snF s)/\Oy [] w wr
theorem uK {w:World} {p:Option Addr} {n cap:Nat} {l:List Cd} (hv:aU iZ 5 w p n cap l) (hn:n<=100000) :
  Calls Tryz.prog 250 #[.slice p n cap] w fun e w'=>e=.returned (.int .i64 (I9 l))/\Oy [] w w':=by
 have hl:=hv.len;subst hl;have HV:=aA hv;clear hv;obtain⟨res,hres⟩:∃ res,res=I9 l:=⟨_,rfl⟩;rw[<-hres];have HR:=aA hres;clear hres;by_cases h12:12<l.length
 ·have d1:decide (12<(l.length:Int))=true:=by simp;omega
  have d2:decide (12<l.length)=true:=by simp;omega
  obtain rfl:res=6:=by rw[HR.out];unfold I9;rw[if_pos h12]
  clear HR;go_enter Tryz.func250,Tryz.ntmps250
  go_wp2;go_ret
  exact⟨rfl,aR _ _⟩
 ·have d1:decide (12<(l.length:Int))=false:=by simp;omega
  have d2:decide (12<l.length)=false:=by simp;omega
  have HRF:Hid (res=DL [] l):=aA (by rw[HR.out];unfold I9;rw[if_neg h12]);clear HR h12;have hmm:=@run_makeMap Tryz.prog;go_enter Tryz.func250,Tryz.ntmps250
  go_wp2;clear hmm;go_loopw [12] (fun vi wr=>ChkI w w.heap.size l vi wr) (fun vi _=>l.length-(intOf vi).toNat)
  case atStart=>exact⟨0,[],Nat.zero_le _,rfl,rfl,qY (bG _ _),(aR _ _).alloc _⟩
  case round =>
   obtain⟨k,s,hk,rfl,hfe,hmp,ho⟩:=hrel;have HF:=aA hfe;have MM:=aA hmp;have OO:=aA ho;clear hfe hmp ho;by_cases hlt:k<l.length
   ·obtain⟨bk,off,hp,hb,c0,c1,c2,c3,c4⟩:=HV.out.cd OO.out hlt
    subst hp;have hle:=OO.out.size;have hb':bk<wr.heap.size:=by omega
    have HST:Hid (res=if CO l[k]=true then (if l[k].id∈s then 10 else DL (l[k].id::s) (l.drop (k+1))) else 3):=aA (by rw[HRF.out,HF.out,List.drop_eq_getElem_cons hlt,DL]);generalize l[k]=c at c0 c1 c2 c3 c4 HST;obtain⟨id,of,di,ji,st⟩:=c;dsimp only at c0 c1 c2 c3 c4;have HZ:Hid (∀ w,(zeroValue 4).run Tryz.prog w=.ok (.bool false) w):=aA Tryz.zeroValue4;have HVL:=aA (fun w=>pValid ⟨id,of,di,ji,st⟩ w);have HID:Hid ((Cd.mk id of di ji st).id=id):=aA rfl;rw[HID.out] at HST;generalize CO ⟨id,of,di,ji,st⟩=okk at HST HVL;go_wp2_with fail
    refine aG (G:=fun w0=>Calls _ _ _ w0 _) ?_;intro w1 hb1 ho1 hs1;refine (HVL.out w1).mono ?_;rintro r w2 ⟨rfl,ho2⟩;have hoo:=(aR [] wr).aB ho1 |>.aB ho2
    have O2:=aA (OO.out.aB hoo);have M2:=aA (MM.out.kept hoo (by simp));have B2:=aA (ho2.got hb1 (by simp));clear hb1 ho1 hs1 ho2 hoo c0 c1 c2 c3 c4 MM OO HVL;have k0:=aC B2.out 0;have lk:=aF B2.out
    cases okk with
    | false =>
     obtain rfl:res=3:=by rw[HST.out];rfl
     clear HRF HF HST;go_wp2;go_ret
     exact⟨rfl,O2.out⟩
    | true =>
     by_cases hin:id∈s
     ·obtain rfl:res=10:=by rw[HST.out,if_pos rfl,if_pos hin]
      have hsn:snF s id=some true:=by unfold snF;rw[if_pos hin]
      clear HRF HF HST;go_wp2_with (at_lookup;refine aW ?_)
      refine bH ?_;refine jZ (kE:=fun n:Int=>Value.int .i64 n) (vE:=Value.bool) rfl _ _ 102 false rfl 3 4 (eF Tryz.underlying3) Tryz.underlying102 (.bool false) (HZ.out _) w.heap.size _ rfl M2.out id rfl ?_;rw[hsn];simp only[Option.map_some,Option.getD_some,Bool.false_eq_true,if_false];clear hin hsn;go_wp2;go_ret
      exact⟨rfl,O2.out⟩
     ·have HQ:Hid (res=DL (id::s) (l.drop (k+1))):=aA (by rw[HST.out,if_pos rfl,if_neg hin])
      have hsn:snF s id=none:=by unfold snF;rw[if_neg hin]
      clear HST;go_wp2_with (at_lookup;refine aW ?_)
      refine bH ?_;refine jZ (kE:=fun n:Int=>Value.int .i64 n) (vE:=Value.bool) rfl _ _ 102 false rfl 3 4 (eF Tryz.underlying3) Tryz.underlying102 (.bool false) (HZ.out _) w.heap.size _ rfl M2.out id rfl ?_;rw[hsn];simp only[Option.map_none,Option.getD_none,Bool.false_eq_true,if_false];clear hin hsn;go_wp2_with (at_mapUpdate;refine aW ?_)
      refine bH ?_;refine iI (kE:=fun n:Int=>Value.int .i64 n) (vE:=Value.bool) rfl _ _ _ 102 rfl 3 4 (eF Tryz.underlying3) Tryz.underlying102 w.heap.size _ rfl M2.out id rfl true rfl ?_;intro w5 hm5 ho5 hs5;rw[WT] at hm5;have M5:=aA hm5;have O5:=aA (O2.out.trans ho5 (fun x hx=>.inr (by simp at hx;omega)));clear hm5 ho5 hs5 M2 O2;go_wp2;go_roundw
      case rel=>exact⟨k+1,id::s,by omega,by go_num,HRF.out.symm.trans HQ.out,M5.out,O5.out⟩
      case measure=>simp[intOf];omega
   ·obtain rfl:res=0:=by rw[HRF.out,HF.out,List.drop_of_length_le (by omega)];rfl
    clear HRF HF;go_wp2;go_ret
    exact⟨rfl,OO.out⟩
end
section
open Go.RowKit Go.Sort
section
variable {α:Type} [Inhabited α]
theorem jM (f:α->Value) (d:Array α) (cur:Array Value) (h:d.size<=cur.size):(putCells f 0 d cur).toList.take d.size=d.toList.map f:=by
 apply List.ext_getElem?
 intro j;by_cases hj:j<d.size
 ·rw[List.getElem?_take_of_lt hj]
  have hc:j<cur.size:=by omega
  simp[putCells,hj,hc]
 ·rw[getElem?_eq_none (by simp;omega),getElem?_eq_none (by simp;omega)]
theorem jN (f:α->Value) (o:Nat) (d:Array α) (cur:Array Value):(putCells f o d cur).size=cur.size:=by simp[putCells]
theorem qP {f:α->Value} {w:World} {g n o:Nat} {cur:Array Value} {e:TypeId} {z:Nat × Nat} {d:Array α} {os:Array Obj} (h:w.heap[g]? = some (.cells cur e z)) :
  (grow (putRow f (Sort.ahead w n) g o d) os).heap[g]? = some (.cells (putCells f o d cur) e z):=by
 have hlt:=aF h;show ((w.heap.modify g (onCells (putCells f o d))) ++ os)[g]? = _
 rw[Array.getElem?_append_left (by simpa using hlt),Array.getElem?_modify,if_pos rfl,h];rfl
theorem qO {f:α->Value} {w:World} {g n o:Nat} {d:Array α} {os:Array Obj}:Oy [g] w (grow (putRow f (Sort.ahead w n) g o d) os):=by
 refine⟨rfl,rfl,rfl,?_,fun k hk hn=>?_⟩
 ·show w.heap.size<=((w.heap.modify g (onCells (putCells f o d))) ++ os).size
  simp
 ·show ((w.heap.modify g (onCells (putCells f o d))) ++ os)[k]? = _
  rw[Array.getElem?_append_left (by simpa using hk),Array.getElem?_modify,if_neg (fun e=>hn (by simp[e]))]
end
def fC (z:Int):List Value:=[.int .i64 z]
theorem dM (z:Int):(fC z).length=1:=rfl
theorem nT (z:Int):∀ u∈fC z,u.oneCell'=true:=fun u hu=>by simp[fC] at hu;subst hu;rfl
theorem sD (l:List Int):l.flatMap fC=l.map (Value.int .i64):=by
 induction l with
 | nil=>rfl
 | cons x r ih=>rw[List.flatMap_cons,ih];rfl
theorem BG {w:World} {B:Nat} {v:Value} {l:List Int} (h:Own fC 3 1 B w v l) (hl:l.length<=1000000) :
  Calls Tryz.prog 72 #[v] w fun e w'=>e=.returned (.tuple #[])/\Own fC 3 1 B w' v (l.mergeSort fun x y=>decide (x<=y))/\Oy v.ownBlock.toList w w':=by
 rcases h with ⟨rfl,rfl⟩|⟨g,cap,rfl,hB,cur,hg,h1,h2,h3,h4⟩
 ·refine (Tryz.slices_Sort_int_none none 0 w).mono ?_
  rintro e w' ⟨rfl,rfl⟩;exact⟨rfl,by rw[List.mergeSort_nil];exact bR _ _,aR _ _⟩
 ·rw[Nat.mul_one] at h1 h4
  have hold:Holds (Value.int .i64) w g 0 l.toArray:=by
   intro j hj;rw[Nat.zero_add];refine⟨?_,aM hg j⟩;have hj':j<l.length:=by simpa using hj
   rw[aC hg,<-Array.getElem?_toList,<-List.getElem?_take_of_lt hj',h4,sD];simp[hj']
  refine (Tryz.slices_Sort_int g 0 cap l w hold (aF hg) (by omega)).mono ?_;rintro e w' ⟨rfl,n,os,rfl⟩;refine⟨rfl,.inr ⟨g,cap,by simp,hB,_,qP hg,by rw[jN];omega,by simpa using h2,h3,?_⟩,qO⟩;have:=jM (Value.int .i64) (l.mergeSort fun x y=>decide (x<=y)).toArray cur (by simp;omega);rw[Nat.mul_one,sD];simpa using this
theorem pE {α:Type} [Inhabited α] (enc:α->List Value) (k:Nat) (hk:∀ x,(enc x).length=k) (l:List α):(flatK enc k l.toArray).toList=l.flatMap enc:=by
 apply List.ext_getElem?
 intro t;by_cases ht:t<l.length*k
 ·have k0:0<k:=by
   rcases Nat.eq_zero_or_pos k with h|h
   ·subst h;simp at ht
   ·exact h
  have h1:t / k<l.length:=(Nat.div_lt_iff_lt_mul k0).2 ht;have h2:t % k<k:=Nat.mod_lt _ k0;have hf:=flat_get enc k hk l (t / k) (t % k) l[t / k] (getElem?_eq_getElem h1) h2;rw[show t / k*k+t % k=t by rw[Nat.mul_comm];exact Nat.div_add_mod t k] at hf;rw[hf];have h3:t % k<(enc l[t / k]).length:=by rw[hk];exact h2
  simp[flatK,ht,h1,h3]
 ·rw[getElem?_eq_none (by simp;omega),getElem?_eq_none (by rw[dK enc k hk];omega)]
end
section
open Go.RowKit Go.Sort
def cfC (x y:Cd):Int:=if Lib.compareInt x.str y.str != 0 then Lib.compareInt x.str y.str else if Lib.compareInt x.dist y.dist != 0 then Lib.compareInt x.dist y.dist else Lib.compareInt x.id y.id
theorem OJ (x y:Cd):ltOf cfC x y=decide (x.str<y.str\/(x.str=y.str/\(x.dist<y.dist\/(x.dist=y.dist/\x.id<y.id)))):=by
 unfold ltOf cfC Lib.compareInt;by_cases h1:x.str<y.str
 ·simp[h1]
 ·by_cases h2:y.str<x.str
  ·have:x.str≠y.str:=by omega
   simp[h1,h2,this]
  ·have e:x.str=y.str:=by omega
   by_cases h3:x.dist<y.dist
   ·simp[e,h3]
   ·by_cases h4:y.dist<x.dist
    ·have:x.dist≠y.dist:=by omega
     simp[e,h3,h4,this]
    ·have e2:x.dist=y.dist:=by omega
     by_cases h5:x.id<y.id
     ·simp[e,e2,h5]
     ·by_cases h6:y.id<x.id<;>simp[e,e2,h5,h6]
theorem cfC_swo:SWO (ltOf cfC) where
 irrefl x:=by rw[OJ];simp
 trans x y z h1 h2:=by rw[OJ] at *;simp only[decide_eq_true_eq] at *;omega
 ntrans x y z h1 h2:=by rw[OJ] at *;simp only[decide_eq_false_iff_not] at *;omega
theorem zZ (c:Cd):∀ u∈iZ c,u.oneCell'=true:=by
 intro u hu;simp only[iZ,mem_cons,List.not_mem_nil,or_false] at hu;rcases hu with rfl|rfl|rfl|rfl|rfl<;>rfl
structure OcW (W:World) (xi xo xd xj xs yi yo yd yj ys:Int) (w:World):Prop where
 eq:∃ q os',w=grow (W.drewN q) os'
 a:w.heap[W.heap.size]? = some (.cells #[.int .i64 xi,.int .i64 xo,.int .i64 xd,.int .i64 xj,.int .i64 xs] 382 (0,0))
 b:w.heap[W.heap.size+1]? = some (.cells #[.int .i64 yi,.int .i64 yo,.int .i64 yd,.int .i64 yj,.int .i64 ys] 382 (0,0))
theorem xB (W:World) (xi xo xd xj xs yi yo yd yj ys:Int):OcW W xi xo xd xj xs yi yo yd yj ys ((W.alloc (.cells #[.int .i64 xi,.int .i64 xo,.int .i64 xd,.int .i64 xj,.int .i64 xs] 382)).alloc (.cells #[.int .i64 yi,.int .i64 yo,.int .i64 yd,.int .i64 yj,.int .i64 ys] 382)):=by
 refine⟨⟨0,_,by rw[alloc_eq_grow,alloc_eq_grow,grow_grow];rfl⟩,alloc_old (bG _ _),?_⟩;have:=bG (W.alloc (.cells #[.int .i64 xi,.int .i64 xo,.int .i64 xd,.int .i64 xj,.int .i64 xs] 382)) (.cells #[.int .i64 yi,.int .i64 yo,.int .i64 yd,.int .i64 yj,.int .i64 ys] 382);rwa [World.size_alloc] at this
theorem TT (x y:Cd) (W:World):Calls Tryz.prog 283 #[yJ x,yJ y] W fun e w'=>e=.returned (.int .i64 (cfC x y))/\∃ q os',w'=grow (W.drewN q) os':=by
 obtain⟨xi,xo,xd,xj,xs⟩:=x;obtain⟨yi,yo,yd,yj,ys⟩:=y;have H1:=aA (fun W'=>Tryz.cmp_Compare_int xs ys W');have H2:=aA (fun W'=>Tryz.cmp_Compare_int xd yd W');have H3:=aA (fun W'=>Tryz.cmp_Compare_int xi yi W');have HC:Hid (cfC ⟨xi,xo,xd,xj,xs⟩ ⟨yi,yo,yd,yj,ys⟩=if Lib.compareInt xs ys != 0 then Lib.compareInt xs ys else if Lib.compareInt xd yd != 0 then Lib.compareInt xd yd else Lib.compareInt xi yi):=aA rfl;generalize Lib.compareInt xs ys=a at H1 HC;generalize Lib.compareInt xd yd=b at H2 HC;generalize Lib.compareInt xi yi=c at H3 HC;generalize cfC ⟨xi,xo,xd,xj,xs⟩ ⟨yi,yo,yd,yj,ys⟩=r at HC |-;unfold yJ;dsimp only;by_cases ha:(a != 0)=true
 ·obtain rfl:r=a:=by rw[HC.out,if_pos ha]
  clear HC;go_enter Tryz.func283,Tryz.ntmps283
  go_upto_region 1 with (fail)
  refine kZ (G:=fun w0=>Code.wp _ _ _ _ w0) (R:=OcW W xi xo xd xj xs yi yo yd yj ys) (xB ..) ?_;intro w1 hw1;have HW:=aA hw1;clear hw1;have c0:=aC HW.out.a 0;have c2:=aC HW.out.a 2;have c4:=aC HW.out.a 4;have e0:=aC HW.out.b 0;have e2:=aC HW.out.b 2;have e4:=aC HW.out.b 4;have l1:=aF HW.out.a;have l2:=aF HW.out.b;go_wp2_with fail
  refine (H1.out _).mono ?_;rintro e w' ⟨rfl,rfl⟩;go_wp2;go_ret
  exact⟨rfl,HW.out.eq⟩
 ·have ha':(a != 0)=false:=by simpa using ha
  by_cases hb:(b != 0)=true
  ·obtain rfl:r=b:=by rw[HC.out,if_neg ha,if_pos hb]
   clear HC ha;go_enter Tryz.func283,Tryz.ntmps283
   go_upto_region 1 with (fail)
   refine kZ (G:=fun w0=>Code.wp _ _ _ _ w0) (R:=OcW W xi xo xd xj xs yi yo yd yj ys) (xB ..) ?_;intro w1 hw1;have HW:=aA hw1;clear hw1;have c0:=aC HW.out.a 0;have c2:=aC HW.out.a 2;have c4:=aC HW.out.a 4;have e0:=aC HW.out.b 0;have e2:=aC HW.out.b 2;have e4:=aC HW.out.b 4;have l1:=aF HW.out.a;have l2:=aF HW.out.b;go_wp2_with fail
   refine (H1.out _).mono ?_;rintro e w' ⟨rfl,rfl⟩;go_wp2_with fail
   refine (H2.out _).mono ?_;rintro e w' ⟨rfl,rfl⟩;go_wp2;go_ret
   exact⟨rfl,HW.out.eq⟩
  ·have hb':(b != 0)=false:=by simpa using hb
   obtain rfl:r=c:=by rw[HC.out,if_neg ha,if_neg hb]
   clear HC ha hb;go_enter Tryz.func283,Tryz.ntmps283
   go_upto_region 1 with (fail)
   refine kZ (G:=fun w0=>Code.wp _ _ _ _ w0) (R:=OcW W xi xo xd xj xs yi yo yd yj ys) (xB ..) ?_;intro w1 hw1;have HW:=aA hw1;clear hw1;have c0:=aC HW.out.a 0;have c2:=aC HW.out.a 2;have c4:=aC HW.out.a 4;have e0:=aC HW.out.b 0;have e2:=aC HW.out.b 2;have e4:=aC HW.out.b 4;have l1:=aF HW.out.a;have l2:=aF HW.out.b;go_wp2_with fail
   refine (H1.out _).mono ?_;rintro e w' ⟨rfl,rfl⟩;go_wp2_with fail
   refine (H2.out _).mono ?_;rintro e w' ⟨rfl,rfl⟩;go_wp2_with fail
   refine (H3.out _).mono ?_;rintro e w' ⟨rfl,rfl⟩;go_wp2;go_ret
   exact⟨rfl,HW.out.eq⟩
end
section
open Go.RowKit
theorem aU.flat {α:Type} {ec:α->List Value} {s:Nat} (hs:∀ x,(ec x).length=s) {w:World} {b off n cap:Nat} {l:List α} (h:aU ec s w (some ⟨b,off,none⟩) n cap l) {j:Nat} {u:Value} (hj:(l.flatMap ec)[j]? = some u):w.cell? ((⟨b,off,none⟩:Addr).add j)=some u:=by
 have hlt:=(List.getElem?_eq_some_iff.1 hj).1;rw[dK ec s hs] at hlt
 have k0:0<s:=by
  rcases Nat.eq_zero_or_pos s with h|h
  ·subst h;simp at hlt
  ·exact h
 have h1:j / s<l.length:=(Nat.div_lt_iff_lt_mul k0).2 hlt;have h2:j % s<s:=Nat.mod_lt _ k0;have hf:=flat_get ec s hs l (j / s) (j % s) l[j / s] (getElem?_eq_getElem h1) h2;rw[show j / s*s+j % s=j by rw[Nat.mul_comm];exact Nat.div_add_mod j s,hj] at hf;obtain⟨b',off',hp,hb,hc⟩:=h.cell (j / s) l[j / s] (getElem?_eq_getElem h1);simp only[Option.some.injEq,Addr.mk.injEq,and_true] at hp;obtain⟨rfl,rfl⟩:=hp;have:=hc (j % s) u hf.symm;rw[show off+(j / s*s+j % s)=off+j by rw[Nat.mul_comm,Nat.div_add_mod]] at this;rw[addr_add];exact this
def cdZ:Value:=.agg #[.int .i64 0,.int .i64 0,.int .i64 0,.int .i64 0,.int .i64 0]
theorem zY:(Tryz.prog.info? 382).map (fun i=>(i.zero,i.size,i.bytes))=some (some cdZ,5,40):=by kernel_rfl
theorem yI (l:List Cd):∀ u∈l.flatMap iZ,u.oneCell'=true:=fun u hu=>by
 obtain⟨x,_,hx⟩:=List.mem_flatMap.1 hu;exact zZ x u hx
theorem cloneC {w:World} {p:Option Addr} {n cap:Nat} {l:List Cd} (hv:aU iZ 5 w p n cap l) (h0:0<l.length) (hl:l.length<=1000) :
  Calls Tryz.prog 281 #[.slice p n cap] w fun e w'=>(∃ g cap',e=.returned (.slice (some ⟨g,0,none⟩) l.length cap')/\w.heap.size<=g/\aO iZ 382 5 w' g cap' l)/\Oy [] w w':=by
 obtain⟨b,off,hp,hb,_⟩:=hv.cell 0 l[0] (getElem?_eq_getElem h0);subst hp;have hln:=hv.len;subst hln;have HV:=aA hv;have q22:∀ w,(binOp .eql 377 (.slice (some ⟨b,off,none⟩) l.length cap) (.slice none 0 0)).run Tryz.prog w=.ok (.bool false) w:=fun w=>Lib.run_eql_slice_nil w _ _ _ _ _ _ _ Tryz.underlying377;clear hv;go_enter Tryz.func281,Tryz.ntmps281
 go_wp2_with (at_builtin;refine aW ?_)
 refine aG (G:=fun w0=>Stop (wpList _ _ _ _ _ w0)) ?_;intro w1 hb1 ho1 hs1;have B1:=aA hb1;have O1:=aA ho1;have hrow:aO iZ 382 5 w1 w.heap.size 0 []:=⟨#[],hb1,rfl,Nat.le_refl _,Nat.zero_le _,rfl⟩;have HR:=aA hrow;obtain⟨i0,hi0,hz0,hz1,hz2⟩:=info_parts zY;have HI0:=aA hi0;have HZ0:=aA hz0;have HZ1:=aA hz1;have HZ2:=aA hz2;clear hi0 hz0 hz1 hz2;clear hb1 ho1 hrow;refine bH ?_;refine dB rfl _ _ 377 rfl 382 i0 cdZ 5 40 Tryz.underlying377 HI0.out HZ0.out HZ1.out HZ2.out rfl (by decide) (.slice (some ⟨w.heap.size,0,none⟩) 0 0) 0 [] rfl (HR.out.owns dQ (Nat.zero_le _)) ⟨b,off,none⟩ l.length cap (l.flatMap iZ) rfl (dK iZ 5 dQ l) (fun j u hj=>(HV.out.kept O1.out).flat dQ hj) (yI l) (by simp[maxLen];omega) (by omega) h0 ?_;intro g' cap' w' hown' ho' hg';rw[Nat.zero_add,List.nil_append] at hown'
 have hge:w.heap.size<=g':=by
  rcases hg' with hg'|hg'
  ·simp only[Value.ownBlock,Option.some.injEq] at hg';omega
  ·omega
 have R2:=aA (aO.kN hown' rfl);have O2:=aA (O1.out.trans (S:=[]) ho' (fun x hx=>.inr (by simp[Value.ownBlock] at hx;omega)));have HGE:=aA hge;clear hown' ho' hg' hge;rw[show 0+l.length=l.length from Nat.zero_add _];go_wp2;go_ret
 exact⟨⟨g',cap',rfl,HGE.out,R2.out⟩,O2.out⟩
theorem GN {w:World} {g:Nat} {cur:Array Value} {e:TypeId} (hg:w.heap[g]? = some (.cells cur e (0,0))) (o:Nat) (vs:List Value) (hfit:o+vs.length<=cur.size) (h1:∀ v∈vs,v.oneCell'=true) :
  w.setCells g o vs=w.setRow g (cur.toList.take o ++ vs ++ cur.toList.drop (o+vs.length)).toArray:=by
 have a:=run_storeCells_at Tryz.prog g o e vs 0 cur w hg (by simpa using hfit) h1
 have b:=run_storeCells_cells (P:=Tryz.prog) g o vs 0 w (fun j hj=>by
  rw[aC hg];simp only[Nat.add_zero];rw[Array.getElem?_eq_getElem (by omega)];rfl) (fun j hj=>aM hg _) h1
 rw[b] at a;simpa using a
theorem GQ {w:World} {g:Nat} {cur:Array Value} {e:TypeId} (hg:w.heap[g]? = some (.cells cur e (0,0))) (o:Nat) (vs:List Value) (hfit:o+vs.length<=cur.size) (h1:∀ v∈vs,v.oneCell'=true) :
  (w.setCells g o vs).heap[g]? = some (.cells (cur.toList.take o ++ vs ++ cur.toList.drop (o+vs.length)).toArray e (0,0))/\Oy [g] w (w.setCells g o vs):=by
 rw[GN hg o vs hfit h1];exact⟨setRow_heap w g cur _ e _ hg,⟨rfl,rfl,rfl,by simp[World.setRow],fun k _ hk=>setRow_other w g k _ (fun e=>hk (by simp[e]))⟩⟩
end
section
open Go.RowKit
theorem UW {α:Type} (enc:α->List Value) (s:Nat) (hs:∀ x,(enc x).length=s) (l:List α) (k:Nat):(l.flatMap enc).drop (k*s)=(l.drop k).flatMap enc:=by
 induction l generalizing k with
 | nil=>simp
 | cons y l ih =>
  cases k with
  | zero=>simp
  | succ k =>
   rw[List.flatMap_cons,List.drop_succ_cons,<-ih k,Nat.succ_mul,List.drop_append,hs,List.drop_of_length_le (by rw[hs];omega),List.nil_append];congr 1;omega
def JC:List Value:=[.int .i64 0,.int .i64 0,.int .i64 0,.int .i64 0,.int .i64 0]
theorem EA {w:World} {g k c:Nat} {ty:TypeId} {cur:Array Value} (hg:w.heap[g]? = some (.cells cur 382 (0,0))) (hfit:k*5+5<=cur.size) :
  (Builtin.clear_ #[377] ty #[.slice (some ⟨g,k*5,none⟩) 1 c]).run Tryz.prog w=.ok (.tuple #[]) (w.setRow g (cur.toList.take (k*5) ++ JC ++ cur.toList.drop (k*5+5)).toArray):=by
 have hst:=run_storeCells_at Tryz.prog g (k*5) 382 JC 0 cur w hg (by simpa [JC] using hfit) (by intro v hv;simp[JC] at hv;subst hv;rfl);simp only[Nat.add_zero] at hst;have hzc:(Builtin.zeroCells cdZ.cells 1).toList=JC:=by simp[Builtin.zeroCells,cdZ,JC,Value.cells];rfl
 have hzv:(zeroValue 382).run Tryz.prog w=.ok cdZ w:=Tryz.zeroValue382 w;simp[Builtin.clear_,run_underlying Tryz.underlying377,hzv,hzc,hst];rfl
set_option maxRecDepth 1000000 in
theorem deleteC {w:World} {g cap i:Nat} {l:List Cd} (h:aO iZ 382 5 w g cap l) (hi:i<l.length) (hl:l.length<=1000) :
  Calls Tryz.prog 257 #[.slice (some ⟨g,0,none⟩) l.length cap,.int .i64 i,.int .i64 (i+1:Nat)] w fun e w'=>e=.returned (.slice (some ⟨g,0,none⟩) (l.length-1) cap)/\aO iZ 382 5 w' g cap (l.take i ++ l.drop (i+1))/\Oy [g] w w':=by
 obtain⟨cur,hg,h1,h2,h3,h4⟩:=h;obtain⟨i0,hi0,hz0,hz1,hz2⟩:=info_parts zY;obtain⟨news,hnews⟩:∃ news,news=(l.drop (i+1)).flatMap iZ:=⟨_,rfl⟩;have hlen:news.length=(l.length-(i+1))*5:=by rw[hnews,dK iZ 5 dQ,List.length_drop]
 obtain⟨n,hn⟩:∃ n,l.length=n:=⟨_,rfl⟩;obtain⟨j,hj⟩:∃ j,i+1=j:=⟨_,rfl⟩;have hji:((i:Nat):Int)+1=(j:Int):=by omega
 rw[hn,hj] at hlen;rw[hn,hj];have heq:((i:Int) == (j:Int))=false:=by rw[beq_eq_false_iff_ne];omega
 have hij:i<j:=by omega
 have hjn:j<=n:=by omega
 have hnc:n<=cap:=by omega
 have hcm:cap<=9223372036854775807:=by simp[maxLen] at h3;omega
 have hic:i<=cap:=by omega
 have hjc:j<=cap:=by omega
 obtain⟨k,hk⟩:∃ k,i+(n-j)=k:=⟨_,rfl⟩;have hkn:n-k=1:=by omega
 have hcell:∀ t,t<n*5->w.drew.cell? ⟨g,t,none⟩=(l.flatMap iZ)[t]? :=by
  intro t ht;show w.cell? _=_
  rw[aC hg,<-h4,hn,List.getElem?_take_of_lt ht,Array.getElem?_toList]
 obtain⟨A,hA,hsrc⟩:∃ A:Addr,(if cap=j then some (⟨g,0,none⟩:Addr) else some ⟨g,j*5,none⟩)=some A/\Hid (∀ t u,news[t]? = some u->w.drew.cell? (A.add t)=some u):=by
  by_cases h:cap=j
  ·refine⟨⟨g,0,none⟩,by simp[h],aA fun t u hu=>?_⟩
   have h0:news.length=0:=by rw[hlen];omega
   rw[List.length_eq_zero_iff.1 h0] at hu;simp at hu
  ·refine⟨⟨g,j*5,none⟩,by simp[h],aA fun t u hu=>?_⟩
   have ht:t<(n-j)*5:=by
    have:=(List.getElem?_eq_some_iff.1 hu).1;rwa [hlen] at this
   rw[addr_add,hcell _ (by omega)];rw[hnews] at hu;rw[<-hu,<-List.getElem?_drop,<-UW iZ 5 dQ,hj]
 have s1:=aA hlen;have s2:Hid (∀ u∈news,u.oneCell'=true):=aA (by rw[hnews];exact yI _)
 have s3:Hid (∀ t,t<news.length->(w.drew.cell? ⟨g,0+i*5+t,none⟩).isSome=true/\w.drew.frozen? ⟨g,0+i*5+t,none⟩=false):=aA (by
  intro t ht;rw[hlen] at ht;refine⟨?_,aM hg _⟩;rw[Nat.zero_add,hcell _ (by omega),getElem?_eq_getElem (by rw[dK iZ 5 dQ,hn];omega)];rfl)
 have hcs:n*5<=cur.size:=by rw[h1];omega
 obtain⟨hw1,ho1⟩:=GQ (w:=w.drew) hg (0+i*5) news (by omega) s2.out;obtain⟨W1,hW1⟩:∃ W1,W1=w.drew.setCells g (0+i*5) news:=⟨_,rfl⟩;rw[<-hW1] at hw1 ho1;obtain⟨cur1,hcur1⟩:∃ cur1,cur1=(cur.toList.take (0+i*5) ++ news ++ cur.toList.drop (0+i*5+news.length)).toArray:=⟨_,rfl⟩;rw[<-hcur1] at hw1;have hc1s:cur1.size=cur.size:=by rw[hcur1];simp;omega
 have hcl:=fun ty=>EA (k:=k) (c:=cap-k) (ty:=ty) hw1 (by omega);obtain⟨W2,hW2⟩:∃ W2,W2=W1.setRow g (cur1.toList.take (k*5) ++ JC ++ cur1.toList.drop (k*5+5)).toArray:=⟨_,rfl⟩;rw[<-hW2,<-hkn] at hcl;have hck:¬ cap=k:=by omega
 have hkc:k<=cap:=by omega
 have hkn2:k<=n:=by omega
 have HW:=aA hW1;have HK:=aA hk
 have HG:Hid (aO iZ 382 5 W2 g cap (l.take i ++ l.drop j)/\Oy [g] w W2):=aA (by
  refine⟨⟨_,by rw[hW2];exact setRow_heap W1 g cur1 _ _ _ hw1,?_,?_,h3,?_⟩,?_⟩
  ·simp only[List.size_toArray,length_append,length_take,List.length_drop,Array.length_toList,JC,List.length_cons,List.length_nil];omega
  ·rw[length_append,length_take,List.length_drop];omega
  ·have e1:(l.take i ++ l.drop j).length*5=k*5:=by rw[length_append,length_take,List.length_drop];omega
   have e2:(cur1.toList.take (k*5)).length=k*5:=by rw[length_take,Array.length_toList];omega
   rw[e1,List.append_assoc,List.take_append_of_le_length (by omega),List.take_of_length_le (by omega),hcur1];have e3:(cur.toList.take (0+i*5)).length=i*5:=by rw[length_take,Array.length_toList];omega
   have e4:(cur.toList.take (0+i*5) ++ news).length=k*5:=by rw[length_append,e3,hlen];omega
   rw[List.take_append_of_le_length (by omega),List.take_of_length_le (by omega),List.flatMap_append,<-hj,<-hnews,<-FI iZ 5 dQ,<-h4,List.take_take,Nat.zero_add];congr 2
   omega
  ·rw[hW2]
   have o2:Oy [g] W1 (W1.setRow g (cur1.toList.take (k*5) ++ JC ++ cur1.toList.drop (k*5+5)).toArray):=⟨rfl,rfl,rfl,by simp[World.setRow],fun q _ hq=>setRow_other W1 g q _ (fun e=>hq (by simp[e]))⟩;exact ((aR [g] w).drew.trans ho1 (fun x hx=>.inl hx)).trans o2 (fun x hx=>.inl hx))
 have HN:Hid (n-1=k):=aA (by omega);rw[HN.out];clear hcell hcur1 hw1 ho1 hW1 hW2 hnews hlen hg h1 h4 hk hcs hc1s hkn hn hj;go_enter Tryz.func257,Tryz.ntmps257
 go_wp2_with fail
 go_region_law (refine step_append_room rfl (.tmp 22) (.tmp 25) 377 rfl 382 i0 5 Tryz.underlying377 hi0 hz1 g 0 i cap (by simp[Act.eval,Act.put]) A (n-j) (cap-j) news (by simp[Act.eval,Act.put]) s1.out hsrc.out s2.out (by omega) s3.out ?_;rw[<-HW.out,HK.out])
 go_wp2;go_ret
 exact⟨rfl,HG.out⟩
end
end Go.Proofs.YtppjhbjmfkiejaaGreat
