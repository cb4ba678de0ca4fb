/- Texts of one chain: Ca, Cb, Y1, Y2, Ce. Conditions: those named in each theorem. -/
import Derived.Test.YtedgpfgccpnjnaaGreatFJa
import Derived.Laws.BytesArg
import Derived.Test.YtedgpfgccpnjnaaGreatFV6
namespace Go.Proofs.YtedgpfgccpnjnaaGreat
open Go.Lib (hid)
set_option maxRecDepth 100000
set_option maxHeartbeats 8000000
section
open Go.RowKit
def upI (z:Int):Bool:=wth z 65 90
def kissS (x:Nat):ByteArray × Bool:=if (be x 4).all upI=true then (strOfNums (be x 4),true) else (⟨#[]⟩,false)
def kissP (p:Np):ByteArray × Bool:=if p.strat=0 then kissS p.rid.toNat else (⟨#[]⟩,false)
theorem be_bd (x s:Nat):∀ z∈be x s,0≤z∧z≤255:=by
 intro z hz;unfold be at hz;obtain⟨i,_,rfl⟩:=List.mem_map.1 hz;unfold beAt;omega
theorem pPut {w:World} {b:Nat} (x:Nat) (hx:x<4294967296) (hb:w.heap[b]? = some (.cells #[.int .u64 x,.int .u64 4] 38 (0,0))) :
  Calls Tryz.prog 239 #[.slice (some ⟨b,0,none⟩) 2 2] w fun e w'=>∃ g,e=.returned (.slice (some ⟨g,0,none⟩) 4 4)∧RowAt bE 5 1 w' g 4 (be x 4)∧Only [] w w':=by
 have BB:=hid hb;have hlt:=got_lt hb;clear hb;go_enter Tryz.func239,Tryz.ntmps239
 go_wp2;go_loopw [3,4] (fun vb vi wr=>(vb=.slice none 0 0∧vi=.int .i64 0∧Only [] w wr)∨(∃ g,vb=.slice (some ⟨g,0,none⟩) 4 4∧vi=.int .i64 2∧RowAt bE 5 1 wr g 4 (be x 4)∧Only [] w wr)) (fun _ vi _=>2-(intOf vi).toNat)
 case atStart=>exact .inl ⟨rfl,rfl,Only.refl _ _⟩
 case round =>
  rcases hrel with ⟨rfl,rfl,ho⟩|⟨g,rfl,rfl,hr,ho⟩
  ·have OO:=hid ho
   have k0:=cell_got (ho.got BB.out (by simp)) 0;have k1:=cell_got (ho.got BB.out (by simp)) 1;have lb:=got_lt (ho.got BB.out (by simp));have HA:=hid (fun w'=>wappend (w:=w') (p:=none) (n:=0) (cap:=0) (bs:=[]) (vrow_nil w') x 4 (by omega) (by omega) (by simpa using hx) (by omega));have hw1:IntKind.i64.wrap 1=1:=by decide
   have hw4:IntKind.i64.wrap 4=4:=by decide
   clear ho;go_wp2_with fail
   refine wp_region_calm2 [0,1,2,3,4,5,6,7,8,9,10] [] (OnlyC ([]:List Nat) wr) (by kernel_rfl) (by kernel_rfl) ?_;simp only[pick,List.map_cons,List.map_nil,List.getD_cons_succ,List.getD_cons_zero];iterate 11 (refine wpCalm_step (fun K hK=>?_);go_simp;refine hK _ ?_;clear hK K)
   refine wpCalm_nil ?_;refine Rest.by (X:=Nat) (fun g a=>((((a.put (some 24) (.tuple #[.slice (some ⟨g,0,none⟩) 4 4,.int .i64 0])).put (some 12) (.tuple #[.slice (some ⟨g,0,none⟩) 4 4,.int .i64 0])).put (some 25) (.slice (some ⟨g,0,none⟩) 4 4)).put (some 26) (.int .i64 0)).put (some 3) (.slice (some ⟨g,0,none⟩) 4 4)) (fun g w'=>RowAt bE 5 1 w' g 4 (be x 4)∧Only [] wr w') ?_ ?_
   rotate_left
   ·have O0:=hid (Only.refl [] wr).drew
    refine wpAnyC_next [11] (by kernel_rfl) (by simp) (.inr (onlyC O0.out)) ?_;simp only[List.mem_cons,List.not_mem_nil,or_false,forall_eq];refine wpOp_one rfl ?_;go_wp2_with fail
    refine (HA.out _).mono ?_;rintro e w3 ⟨rfl,hr3,ho3⟩;have R3:=hid hr3;replace O0:=hid (O0.out.nil_trans ho3);clear hr3 ho3 HA k0 k1 lb;go_wp2;simp only[nrm];refine wpAnyC_next [12] (by kernel_rfl) (by simp) (.inr (onlyC O0.out)) ?_;simp only[List.mem_cons,List.not_mem_nil,or_false,forall_eq];refine wpOp_one rfl ?_;go_wp2;simp only[nrm];refine wpAnyC_next [13,14] (by kernel_rfl) (by simp) (.inr (onlyC O0.out)) ?_;simp only[List.mem_cons,List.not_mem_nil,or_false,forall_eq_or_imp,forall_eq];refine⟨?_,?_⟩
    focus
     refine wpOp_one rfl ?_;go_wp2;simp only[nrm];refine wpAnyC_next [14,15] (by kernel_rfl) (by simp) (.inr (onlyC O0.out)) ?_;simp only[List.mem_cons,List.not_mem_nil,or_false,forall_eq_or_imp,forall_eq];refine⟨?_,?_⟩
     focus
      refine wpOp_one rfl ?_;go_wp2;simp only[nrm];refine wpAnyC_next [15] (by kernel_rfl) (by simp) (.inr (onlyC O0.out)) ?_
     rotate_left
     focus
      refine wpOp_one rfl ?_;go_wp2;simp only[nrm];refine wpAnyC_next [14] (by kernel_rfl) (by simp) (.inr (onlyC O0.out)) ?_
     rotate_left
    rotate_left 2
    focus
     refine wpOp_one rfl ?_;go_wp2;simp only[nrm];refine wpAnyC_next [13] (by kernel_rfl) (by simp) (.inr (onlyC O0.out)) ?_;simp only[List.mem_cons,List.not_mem_nil,or_false,forall_eq];refine wpOp_one rfl ?_;go_wp2;simp only[nrm];refine wpAnyC_next [15] (by kernel_rfl) (by simp) (.inr (onlyC O0.out)) ?_
    rotate_left
    all_goals
     simp only[List.mem_cons,List.not_mem_nil,or_false,forall_eq];refine wpOp_one rfl ?_;go_wp2;simp only[nrm];exact wpAnyC_done (by kernel_rfl) (.inr (onlyC O0.out)) ⟨wr.heap.size,by simp[Act.put],by simpa using R3.out,O0.out⟩
   rintro g w3 ⟨hr3,ho3⟩;simp only[Act.put,List.setIfInBounds_toArray,List.set_cons_succ,List.set_cons_zero];have R3:=hid hr3;have O3:=hid (OO.out.nil_trans ho3);clear hr3 ho3 HA k0 k1 lb;go_wp2;go_roundw
   case rel=>exact .inr ⟨_,rfl,by go_num,by simpa using R3.out,O3.out⟩
   case measure=>first|(simp[intOf];done)|(simp[intOf];omega)
  ·have OO:=hid ho;have RR:=hid hr
   clear ho hr;go_wp2;go_ret
   exact⟨g,rfl,RR.out,OO.out⟩
theorem pIsCode (xs:List Int) (hl:xs.length=4) (hb:∀ z∈xs,0≤z∧z≤255) (w:World) :
  Calls Tryz.prog 240 #[.string (strOfNums xs)] w fun e w'=>e=.returned (.bool (xs.all upI))∧Only [] w w':=by
 have HG:Hid (∀ k (h:k<(strOfNums xs).size) (hk:k<xs.length),(((strOfNums xs)[k]).toNat:Int)=xs[k]):=hid (by
  intro k h hk;have hd:=strOfNums_data xs
  have h1:(strOfNums xs).data.toList[k]? = some ((strOfNums xs)[k]):=by
   rw[List.getElem?_eq_getElem (by rw[Array.length_toList];exact h)];rfl
  rw[hd,List.getElem?_map,List.getElem?_eq_getElem hk] at h1;simp only[Option.map_some,Option.some.injEq] at h1;rw[←h1];have:=hb _ (List.getElem_mem hk);have h2:xs[k].toNat<256:=by omega
  have h3:(UInt8.ofNat xs[k].toNat).toNat=xs[k].toNat % 256:=rfl;rw[h3];omega)
 have hsz:(strOfNums xs).size=4:=by rw[strOfNums_size,hl]
 generalize strOfNums xs=S at HG hsz ⊢;have HL:=hid hl
 have HU:Hid (∀ k (hk:k<xs.length),(xs.take (k+1)).all upI=((xs.take k).all upI && upI xs[k])):=hid (by
  intro k hk;rw[List.take_succ_eq_append_getElem hk,List.all_append];simp)
 have HF:Hid (∀ k (hk:k<xs.length),upI xs[k]=false→xs.all upI=false):=hid (by
  intro k hk h;rw[List.all_eq_false];exact⟨xs[k],List.getElem_mem hk,by simp[h]⟩)
 have HT:Hid ((xs.take 4).all upI=xs.all upI):=hid (by rw[List.take_of_length_le (by omega)]);have HB:=hid hb;clear hl hb;go_enter Tryz.func240,Tryz.ntmps240
 go_wp2_with fail
 go_loopw [9] (fun vi wr=>∃ k:Nat,k≤4∧vi=.int .i64 k∧(xs.take k).all upI=true∧Only [] w wr) (fun vi _=>4-(intOf vi).toNat)
 case atStart=>exact⟨0,by omega,rfl,rfl,Only.refl _ _⟩
 case round =>
  obtain⟨k,hk,rfl,hall,ho⟩:=hrel;have OO:=hid ho;have HA:=hid hall;clear ho hall;by_cases hlt:k<4
  ·have hkx:k<xs.length:=by rw[HL.out];exact hlt
   have hkS:k<S.size:=by rw[hsz];exact hlt
   have hg:=HG.out k hkS hkx;have hzb:=HB.out _ (List.getElem_mem hkx);have hu:=HU.out k hkx;rw[HA.out] at hu;have hf:=HF.out k hkx;generalize xs[k]=z at hg hzb hu hf;have HU2:=hid hu;have HF2:=hid hf;clear hu hf;by_cases h1:z<65
   ·have a1:decide (z<65)=true:=decide_eq_true h1
    have HR:Hid (xs.all upI=false):=hid (HF2.out (by unfold upI;rw[wth_no];omega));go_wp2;go_ret
    exact⟨by rw[HR.out];rfl,OO.out⟩
   ·have a1:decide (z<65)=false:=decide_eq_false h1
    by_cases h2:90<z
    ·have a2:decide (90<z)=true:=decide_eq_true h2
     have HR:Hid (xs.all upI=false):=hid (HF2.out (by unfold upI;rw[wth_no];omega));go_wp2;go_ret
     exact⟨by rw[HR.out];rfl,OO.out⟩
    ·have a2:decide (90<z)=false:=decide_eq_false h2
     have HN:Hid ((xs.take (k+1)).all upI=true):=hid (by rw[HU2.out,show upI z=true from by unfold upI;rw[wth_iff];omega];rfl);go_wp2;go_roundw
     case rel=>exact⟨k+1,by omega,by go_num,HN.out,OO.out⟩
     case measure=>first|(simp[intOf];done)|(simp[intOf];omega)
  ·obtain rfl:k=4:=by omega
   have HR:Hid (xs.all upI=true):=hid (by rw[←HT.out];exact HA.out);go_wp2;go_ret
   exact⟨by rw[HR.out];rfl,OO.out⟩
theorem pKiss (p:Np) (hp:0≤p.rid∧p.rid≤4294967295) (w:World) :
  Calls Tryz.prog 163 #[npV p] w fun e w'=>e=.returned (.tuple #[.string (kissP p).1,.bool (kissP p).2])∧Only [] w w':=by
 have HE:Hid (kissP p=if p.strat=0 then kissS p.rid.toNat else (⟨#[]⟩,false)):=hid rfl;generalize kissP p=res at HE ⊢;obtain⟨p1,p2,p3,p4,p5,p6,p7,p8,p9,pa,pb,pc,pd⟩:=p;dsimp only at hp HE;unfold npV;dsimp only;by_cases hz:p4=0
 ·subst hz
  obtain⟨x,rfl⟩:∃ x:Nat,p9=(x:Int):=⟨p9.toNat,by omega⟩;have hx:x<4294967296:=by omega
  have hxw:IntKind.u64.wrap (x:Int)=(x:Int):=by rw[IntKind.wrap_u64];omega
  have HR:Hid (res=if (be x 4).all upI=true then (strOfNums (be x 4),true) else (⟨#[]⟩,false)):=hid (by rw[HE.out,if_pos rfl];rfl);have HI:=hid (fun w'=>pIsCode (be x 4) (be_length x 4) (be_bd x 4) w');have HP:=hid (fun (w':World) b hb=>pPut (w:=w') (b:=b) x hx hb);clear HE hp;generalize (be x 4).all upI=ok at HR HI;go_enter Tryz.func163,Tryz.ntmps163
  go_upto_region 1 with (fail)
  refine alloc_abs (G:=fun w0=>Code.wp _ _ _ _ w0) ?_;intro w1 hb1 ho1 hs1;have B1:=hid hb1;have OO:=hid ho1;clear hb1 ho1 hs1;have k3:=cell_got B1.out 3;have k8:=cell_got B1.out 8;have l1:=got_lt B1.out;go_wp2_with fail
  refine alloc_abs (G:=fun w0=>Calls _ _ _ w0 _) ?_;intro w2 hb2 ho2 hs2;have O2:=hid (OO.out.nil_trans ho2);refine (HP.out w2 _ hb2).mono ?_;rintro e w3 ⟨g,rfl,hr,ho3⟩;have O3:=hid (O2.out.nil_trans ho3)
  have CV:=hid (run_convert_bytes_arg (P:=Tryz.prog) w3 246 5 Tryz.underlying246 Tryz.underlying5 g 0 4 4 (be x 4) (be_length x 4) (fun i hi=>by
   obtain⟨b',off,hp',_,hc⟩:=(RowAt.vrow (enc:=bE) (s:=1) (fun _=>rfl) hr (be_length x 4).symm).cell i (be x 4)[i] (List.getElem?_eq_getElem (by rw[be_length];exact hi));simp only[Option.some.injEq,Addr.mk.injEq,and_true] at hp';obtain⟨rfl,rfl⟩:=hp';have:=hc 0 _ rfl;simp only[Nat.mul_one,Nat.add_zero] at this;rw[this,List.getD_eq_getElem?_getD,List.getElem?_eq_getElem (by rw[be_length];exact hi)];rfl) 9 Tryz.underlying9)
  have cv:=CV.out;clear hb2 ho2 hs2 hr ho3 HP O2 k3 k8 l1;generalize strOfNums (be x 4)=S at HR HI cv;go_wp2_with fail
  refine (HI.out w3).mono ?_;rintro e w4 ⟨rfl,ho4⟩;have O4:=hid (O3.out.nil_trans ho4);clear ho4 HI cv CV
  cases ok
  ·obtain rfl:res=(⟨#[]⟩,false):=by have:=HR.out;simpa using this
   go_wp2;go_ret2;exact⟨rfl,O4.out⟩
  ·obtain rfl:res=(S,true):=by have:=HR.out;simpa using this
   go_wp2;go_ret2;exact⟨rfl,O4.out⟩
 ·have q1:(p4 != 0)=true:=by simpa using hz
  obtain rfl:res=(⟨#[]⟩,false):=by rw[HE.out,if_neg hz]
  clear HE;go_enter Tryz.func163,Tryz.ntmps163
  go_upto_region 1 with (fail)
  refine alloc_abs (G:=fun w0=>Code.wp _ _ _ _ w0) ?_;intro w1 hb1 ho1 hs1;have B1:=hid hb1;have OO:=hid ho1;clear hb1 ho1 hs1;have k3:=cell_got B1.out 3;have l1:=got_lt B1.out;go_wp2;go_ret2;exact⟨rfl,OO.out⟩
end
section
open Go.RowKit
structure As where
 ver:Int
 t1:Int
 nonce:Int
 pend:Bool
 xmt:Int
deriving DecidableEq,Inhabited
structure Hd where
 kind:Int
 code:ByteArray
 q:Qd
def hdV (h:Hd):Value:=.agg #[.int .i64 h.kind,.string h.code,.int .i64 h.q.t1,.int .i64 h.q.t2,.int .i64 h.q.t3,.int .i64 h.q.t4]
def hdK (k:Int):Hd:=⟨k,⟨#[]⟩,⟨0,0,0,0⟩⟩
def AsAt (w:World) (b:Nat) (a:As):Prop:=∃ c0 c1 c2 c3 c4 c5 c6 c7:Int,w.heap[b]? = some (.cells #[.int .i64 a.ver,.int .i64 a.t1,.int .u64 a.nonce,.bool a.pend,.int .u64 a.xmt,.int .i64 c0,.int .i64 c1,.int .i64 c2,.int .i64 c3,.int .i64 c4,.int .i64 c5,.int .i64 c6,.int .i64 c7] 122 (0,0))
theorem AsAt.kept {w w':World} {b:Nat} {a:As} {S:List Nat} (h:AsAt w b a) (ho:Only S w w') (hS:b ∉ S):AsAt w' b a:=by
 obtain⟨c0,c1,c2,c3,c4,c5,c6,c7,h⟩:=h;exact⟨c0,c1,c2,c3,c4,c5,c6,c7,ho.got h hS⟩
theorem AsAt.lt {w:World} {b:Nat} {a:As} (h:AsAt w b a):b<w.heap.size:=by
 obtain⟨c0,c1,c2,c3,c4,c5,c6,c7,h⟩:=h;exact got_lt h
def aSend (a:As) (now nonce:Int):Np × Int × As:=
 if isT now=true then (if nonce=0 then (np0,2,a) else if nonce=a.nonce then (np0,10,a) else ({ np0 with ver:=a.ver,mode:=3,xmt:=nonce },0,{ a with t1:=now,nonce:=nonce,pend:=true })) else (np0,3,a)
def aRef (a:As) (p:Np) (now:Int):Option Int:=
 if nchk p=0∧p.mode=4∧isT now=true∧¬ ((a.t1≠0∨a.nonce≠0)∧now<a.t1) then (if a.pend=true then (if p.org=a.nonce then (if p.xmt≠0∧p.xmt=a.xmt then some 3 else none) else some 2) else some 1) else some 0
def aAcc (a:As) (p:Np) (now:Int):Hd:=
 if (kissP p).2=true then ⟨4,(kissP p).1,⟨0,0,0,0⟩⟩ else if nsync p=true then
  (if (instS p.rcv now).2=true∧(instS p.xmt now).2=true∧¬ (instS p.xmt now).1<(instS p.rcv now).1 then ⟨7,⟨#[]⟩,⟨a.t1,(instS p.rcv now).1,(instS p.xmt now).1,now⟩⟩ else hdK 6) else hdK 5
def aRecv (a:As) (p:Np) (now:Int):Hd × As:=match aRef a p now with
 | some k=>(hdK k,a)
 | none=>(aAcc a p now,{ a with pend:=false,xmt:=p.xmt })
def as4:As:=⟨4,0,0,false,0⟩
theorem pANew (w:World):Calls Tryz.prog 23 #[.int .i64 4] w fun e w'=>e=.returned (.pointer (some ⟨w.heap.size,0,none⟩))∧AsAt w' w.heap.size as4∧Only [] w w':=by
 go_enter Tryz.func23,Tryz.ntmps23
 have OO:=hid (Only.refl [] w);go_wp2;refine alloc_abs (G:=fun w0=>bodyPost _ _ _ _ _ w0) ?_;intro w1 hb ho hs;go_ret
 exact⟨rfl,⟨0,0,0,0,0,0,0,0,hb⟩,ho⟩
set_option synthInstance.maxSize 2000 in
set_option synthInstance.maxHeartbeats 400000 in
theorem pASend {w:World} {b:Nat} {a:As} (ha:AsAt w b a) (now n:Int) :
  Calls Tryz.prog 47 #[.pointer (some ⟨b,0,none⟩),.int .i64 now,.int .u64 n] w fun e w'=>e=.returned (.tuple #[npV (aSend a now n).1,.int .i64 (aSend a now n).2.1])∧AsAt w' b (aSend a now n).2.2∧Only [b] w w':=by
 obtain⟨c0,c1,c2,c3,c4,c5,c6,c7,hA⟩:=ha;obtain⟨ver,t1,nonce,pend,xmt⟩:=a;dsimp only at hA;have HI:=hid (fun w'=>pReading now w');obtain⟨res,HE⟩:∃ zz,Hid (aSend ⟨ver,t1,nonce,pend,xmt⟩ now n=zz):=⟨_,hid rfl⟩;rw[HE.out];unfold aSend at HE;unfold npV;dsimp only at HE ⊢;generalize isT now=it at HI HE
 cases it
 focus
  rw[if_neg (by decide)] at HE
 rotate_left 1
 focus
  rw[if_pos rfl] at HE;by_cases hz:n=0
  focus
   subst hz;rw[if_pos rfl] at HE
  rotate_left 1
  focus
   rw[if_neg hz] at HE;have d0:(n == 0)=false:=by simpa using hz
   by_cases hq:n=nonce
   focus
    subst hq;rw[if_pos rfl] at HE
   rotate_left 1
   focus
    rw[if_neg hq] at HE;have d1:(n == nonce)=false:=by simpa using hq
 all_goals
  obtain rfl:=HE.out;clear HE;have m:=mm1 hA;have k:=m.out.k;clear hA;go_enter Tryz.func47,Tryz.ntmps47
  go_wp2_with (first|((with_reducible first|refine cM (HI.out _) ?_|refine wU ?_);clear k m;intro w m k)|((with_reducible refine lE (fun w o g k K hK=>⟨rfl,?_⟩));simp[results,Tryz.results47,go_sem,k];refine hK _ ?_;exact⟨rfl,⟨_,_,_,_,_,_,_,_,Has.h w g⟩,o⟩))
end
section
open Go.RowKit
@[go_sem ↓] theorem req_neq (t n:Int) (w:World):(binOp .neq 119 (.agg #[.int .i64 t,.int .u64 n]) (.agg #[.int .i64 0,.int .u64 0])).run Tryz.prog w=.ok (.bool (!(t == 0 && n == 0))) w:=by
 by_cases h1:t=0
 ·by_cases h2:n=0
  ·simp[go_sem,h1,h2]
  ·simp[go_sem,h1,h2]
 ·simp[go_sem,h1]
def refV:Option Int→Value
 | some k=>.tuple #[hdV (hdK k),.bool true]
 | none=>.tuple #[hdV (hdK 0),.bool false]
theorem pRefuse {w:World} {b:Nat} {a:As} (ha:AsAt w b a) (p:Np) (now:Int)  :
  Calls Tryz.prog 86 #[.pointer (some ⟨b,0,none⟩),npV p,.int .i64 now] w fun e w'=>e=.returned (refV (aRef a p now))∧Only [] w w':=by
 obtain⟨c0,c1,c2,c3,c4,c5,c6,c7,hA⟩:=ha;obtain⟨ver,t1,nonce,pend,xmt⟩:=a;obtain⟨p1,p2,p3,p4,p5,p6,p7,p8,p9,pa,pb,pc,pd⟩:=p;dsimp only at hA;have HC:=hid (pNChk ⟨p1,p2,p3,p4,p5,p6,p7,p8,p9,pa,pb,pc,pd⟩);have HT:=hid (pReading now);obtain⟨res,HE⟩:∃ r,Hid (aRef ⟨ver,t1,nonce,pend,xmt⟩ ⟨p1,p2,p3,p4,p5,p6,p7,p8,p9,pa,pb,pc,pd⟩ now=r):=⟨_,hid rfl⟩;rw[HE.out];unfold aRef at HE;dsimp only at HE;generalize nchk ⟨p1,p2,p3,p4,p5,p6,p7,p8,p9,pa,pb,pc,pd⟩=er at HC HE;generalize isT now=tn at HT HE;unfold npV at HC ⊢;dsimp only at HC ⊢;have m:=mmR hA;have k:=m.out.k;clear hA;go_enter Tryz.func86,Tryz.ntmps86
 go_wp2_with (first|((with_reducible first|refine cM (HC.out _) ?_|refine cM (HT.out _) ?_|refine wU ?_);clear k m;intro w m k)|((with_reducible refine rG (id:=6) [0,1,2,3,4,5,6,7,8] [] (by kernel_rfl) (by kernel_rfl) ?_);simp only[pick,List.map_cons,List.map_nil,List.getD_cons_succ,List.getD_cons_zero];(repeat' (first|go_big_quiet_step (first|exact gX (HC.out _)|exact gX (HT.out _))|(refine wpQuiet_step (fun K hK=>?_);go_simp;(first|(refine hK _ ?_;clear hK K)|(split<;>(refine hK _ ?_;clear hK K))))));all_goals (refine wpQuiet_nil ?_;clear k m;intro w m k))|((with_reducible refine rG (id:=8) [0,1,2,3,4,5,6,7,8,9,10,11,12] [] (by kernel_rfl) (by kernel_rfl) ?_);simp only[pick,List.map_cons,List.map_nil,List.getD_cons_succ,List.getD_cons_zero];(repeat' (first|go_big_quiet_step (first|exact gX (HC.out _)|exact gX (HT.out _))|(refine wpQuiet_step (fun K hK=>?_);go_simp;(first|(refine hK _ ?_;clear hK K)|(split<;>(refine hK _ ?_;clear hK K))))));all_goals (refine wpQuiet_nil ?_;clear k m;intro w m k))|((with_reducible refine lF (fun w k=>⟨rfl,?_⟩));rw[←HE.out];simp[results,Tryz.results86,go_sem,k]))
 all_goals first|rfl|(clear k m;go_tidy;grind [refV,hdV,hdK])|trace_state
theorem pAccept {w:World} {b:Nat} {ver t1 nonce xmt c0 c1 c2 c3 c4 c5 c6 c7:Int} {pend:Bool} (hA:w.heap[b]? = some (.cells #[.int .i64 ver,.int .i64 t1,.int .u64 nonce,.bool pend,.int .u64 xmt,.int .i64 c0,.int .i64 c1,.int .i64 c2,.int .i64 c3,.int .i64 c4,.int .i64 c5,.int .i64 c6,.int .i64 c7] 122 (0,0))) (p:Np) (now:Int) (hp:npOk p) (hn:isT now=true)  :
  Calls Tryz.prog 87 #[.pointer (some ⟨b,0,none⟩),npV p,.int .i64 now] w fun e w'=>e=.returned (hdV (aAcc ⟨ver,t1,nonce,pend,xmt⟩ p now))∧w'.heap[b]? = some (.cells #[.int .i64 ver,.int .i64 t1,.int .u64 nonce,.bool false,.int .u64 p.xmt,.int .i64 c0,.int .i64 c1,.int .i64 c2,.int .i64 c3,.int .i64 c4,.int .i64 c5,.int .i64 c6,.int .i64 c7] 122 (0,0))∧Only [b] w w':=by
 have HK:=hid (pKiss p hp.2.2.1);have HY:=hid (pNSync p);have HI2:=hid (pInstant p.rcv now hn);have HI3:=hid (pInstant p.xmt now hn);obtain⟨res,HE⟩:∃ r,Hid (aAcc ⟨ver,t1,nonce,pend,xmt⟩ p now=r):=⟨_,hid rfl⟩;rw[HE.out];unfold aAcc at HE;generalize kissP p=kk at HK HE;generalize nsync p=sy at HY HE;generalize instS p.rcv now=i2 at HI2 HE;generalize instS p.xmt now=i3 at HI3 HE;obtain⟨ks,kb⟩:=kk;obtain⟨v2,o2⟩:=i2;obtain⟨v3,o3⟩:=i3;obtain⟨p1,p2,p3,p4,p5,p6,p7,p8,p9,pa,pb,pc,pd⟩:=p;unfold npV at HK HY ⊢;dsimp only at HK HY HI2 HI3 HE ⊢;clear hp hn;have m:=mm1 hA;have k:=m.out.k;clear hA;go_enter Tryz.func87,Tryz.ntmps87
 go_wp2_with (first|((with_reducible first|refine cM (HK.out _) ?_|refine cM (HY.out _) ?_|refine cM (HI2.out _) ?_|refine cM (HI3.out _) ?_|refine wU ?_);clear k m;intro w m k)|((with_reducible refine lG (fun w g=>Has.h w g) (fun w k=>⟨rfl,?_⟩));rw[←HE.out];simp[results,Tryz.results87,go_sem,k]))
 all_goals first|rfl|(clear k m;go_tidy;grind [refV,hdV,hdK])|trace_state
end
section
open Go.RowKit
theorem acc_kind (a:As) (p:Np) (now:Int):(aAcc a p now).kind=4∨(aAcc a p now).kind=5∨(aAcc a p now).kind=6∨(aAcc a p now).kind=7:=by
 unfold aAcc hdK;split
 ·simp
 ·split
  ·split<;>simp
  ·simp
theorem ref_kind {a:As} {p:Np} {now k:Int} (h:aRef a p now=some k):k=0∨k=1∨k=2∨k=3:=by
 unfold aRef at h;split at h
 ·split at h
  ·split at h
   ·split at h
    ·simp only[Option.some.injEq] at h;omega
    ·cases h
   ·simp only[Option.some.injEq] at h;omega
  ·simp only[Option.some.injEq] at h;omega
 ·simp only[Option.some.injEq] at h;omega
theorem ref_time {a:As} {p:Np} {now:Int} (h:aRef a p now=none):isT now=true:=by
 unfold aRef at h;split at h
 ·rename_i hh;exact hh.2.2.1
 ·cases h
theorem pARecv {w:World} {b:Nat} {a:As} (ha:AsAt w b a) (p:Np) (now:Int) (hp:npOk p) :
  Calls Tryz.prog 49 #[.pointer (some ⟨b,0,none⟩),npV p,.int .i64 now] w fun e w'=>e=.returned (hdV (aRecv a p now).1)∧AsAt w' b (aRecv a p now).2∧Only [b] w w':=by
 obtain⟨c0,c1,c2,c3,c4,c5,c6,c7,hA⟩:=ha;obtain⟨ver,t1,nonce,pend,xmt⟩:=a;dsimp only at hA;have HR:=hid (fun (w':World) (h:w'.heap[b]? = some (.cells #[.int .i64 ver,.int .i64 t1,.int .u64 nonce,.bool pend,.int .u64 xmt,.int .i64 c0,.int .i64 c1,.int .i64 c2,.int .i64 c3,.int .i64 c4,.int .i64 c5,.int .i64 c6,.int .i64 c7] 122 (0,0)))=>pRefuse (a:=⟨ver,t1,nonce,pend,xmt⟩) ⟨c0,c1,c2,c3,c4,c5,c6,c7,h⟩ p now)
 have HE:Hid (aRecv ⟨ver,t1,nonce,pend,xmt⟩ p now=match aRef ⟨ver,t1,nonce,pend,xmt⟩ p now with
  | some k=>(hdK k,⟨ver,t1,nonce,pend,xmt⟩)
  | none=>(aAcc ⟨ver,t1,nonce,pend,xmt⟩ p now,{ (⟨ver,t1,nonce,pend,xmt⟩:As) with pend:=false,xmt:=p.xmt })):=hid rfl
 rw[HE.out];clear HE
 cases hr:aRef ⟨ver,t1,nonce,pend,xmt⟩ p now with
 | some kk =>
  rw[hr] at HR;have hk:=ref_kind hr;clear hr hp;obtain⟨p1,p2,p3,p4,p5,p6,p7,p8,p9,pa,pb,pc,pd⟩:=p;unfold npV refV hdK hdV at HR;unfold npV hdK hdV;dsimp only at HR ⊢;rcases hk with rfl|rfl|rfl|rfl
  all_goals
   have m:=mm1 hA;have k:=m.out.k;clear hA;go_enter Tryz.func49,Tryz.ntmps49
   go_wp2_with (first|((with_reducible first|refine cM (HR.out _ gB) ?_|refine wU ?_);clear k m;intro w m k)|((with_reducible refine rG (id:=6) [0,1,2,3,4,5,6,7,8,9,10] [11] (by kernel_rfl) (by kernel_rfl) ?_);simp only[pick,List.map_cons,List.map_nil,List.getD_cons_succ,List.getD_cons_zero];(repeat' (first|go_big_quiet_step (fail)|(refine wpQuiet_step (fun K hK=>?_);go_simp;(first|(refine hK _ ?_;clear hK K)|(split<;>(refine hK _ ?_;clear hK K))))));all_goals (refine wpQuiet_nil ?_;clear k m;intro w m k))|((with_reducible refine lE (fun w o g k K hK=>⟨rfl,?_⟩));simp[results,Tryz.results49,go_sem,k];refine hK _ ?_;exact⟨rfl,⟨_,_,_,_,_,_,_,_,Has.h w g⟩,o⟩))
 | none =>
  rw[hr] at HR;have hn:=ref_time hr;have hk:=acc_kind ⟨ver,t1,nonce,pend,xmt⟩ p now;have HAc:=hid (fun (w':World) (h:w'.heap[b]? = some (.cells #[.int .i64 ver,.int .i64 t1,.int .u64 nonce,.bool pend,.int .u64 xmt,.int .i64 c0,.int .i64 c1,.int .i64 c2,.int .i64 c3,.int .i64 c4,.int .i64 c5,.int .i64 c6,.int .i64 c7] 122 (0,0)))=>pAccept h p now hp hn);clear hr hp hn;generalize aAcc ⟨ver,t1,nonce,pend,xmt⟩ p now=ac at HAc hk ⊢;obtain⟨ak,akc,⟨q1,q2,q3,q4⟩⟩:=ac;obtain⟨p1,p2,p3,p4,p5,p6,p7,p8,p9,pa,pb,pc,pd⟩:=p;unfold npV refV hdK hdV at HR;unfold npV hdV at HAc;unfold npV hdV;dsimp only at HR HAc hk ⊢;rcases hk with rfl|rfl|rfl|rfl
  all_goals
   have m:=mm1 hA;have k:=m.out.k;clear hA;go_enter Tryz.func49,Tryz.ntmps49
   go_wp2_with (first|((with_reducible first|refine cM (HR.out _ gB) ?_|refine cP (HAc.out _ gB) ?_|refine wU ?_);clear k m;intro w m k)|((with_reducible refine rG (id:=6) [0,1,2,3,4,5,6,7,8,9,10] [11] (by kernel_rfl) (by kernel_rfl) ?_);simp only[pick,List.map_cons,List.map_nil,List.getD_cons_succ,List.getD_cons_zero];(repeat' (first|go_big_quiet_step (fail)|(refine wpQuiet_step (fun K hK=>?_);go_simp;(first|(refine hK _ ?_;clear hK K)|(split<;>(refine hK _ ?_;clear hK K))))));all_goals (refine wpQuiet_nil ?_;clear k m;intro w m k))|((with_reducible refine lE (fun w o g k K hK=>⟨rfl,?_⟩));simp[results,Tryz.results49,go_sem,k];refine hK _ ?_;exact⟨rfl,⟨_,_,_,_,_,_,_,_,Has.h w g⟩,o⟩))
end
section
open Go.RowKit
structure Ck where
 raw:Int
 time:Int
 ppb:Int
 steps:Int
deriving DecidableEq,Inhabited
def CkAt (w:World) (b:Nat) (c:Ck):Prop:=w.heap[b]? = some (.cells #[.int .i64 c.raw,.int .i64 c.time,.int .i64 c.ppb,.int .i64 0,.int .i64 0,.int .i64 c.steps] 172 (0,0))
structure CkOk (c:Ck):Prop where
 r0: -4503599627370496≤c.raw
 r1:c.raw≤4503599627370496
 t0: -4503599627370496≤c.time
 t1:c.time≤4503599627370496
 p0: -500000≤c.ppb
 p1:c.ppb≤500000
 s0:0≤c.steps
 s1:c.steps≤9223372036854775807
def cShow (c:Ck) (raw:Int):Int:=c.time+(raw-c.raw)+(raw-c.raw)*c.ppb / 1000000000
def cNow (c:Ck) (raw:Int):Int × Int:=if raw<c.raw then (0,12) else if 4503599627370496<raw then (0,3) else if isT (cShow c raw)=true then (cShow c raw,0) else (0,3)
theorem part_bd {e ppb:Int} (h0:0≤e) (h1:e≤9007199254740992) (h2: -500000≤ppb) (h3:ppb≤500000): -9007199254740992≤e*ppb / 1000000000∧e*ppb / 1000000000≤9007199254740992:=by
 constructor
 ·rw[Int.le_ediv_iff_mul_le (by omega)]
  have:=Int.mul_le_mul_of_nonneg_left (a:=-500000) (b:=ppb) (c:=e) h2 h0;omega
 ·refine Int.ediv_le_of_le_mul (by omega) ?_
  have:=Int.mul_le_mul_of_nonneg_left (a:=ppb) (b:=500000) (c:=e) h3 h0;omega
theorem pCWithin (n m:Int) (h0:0≤m) (hm:m≤9223372036854775807) (w:World) :
  Calls Tryz.prog 148 #[.int .i64 n,.int .i64 m] w fun e w'=>e=.returned (.bool (wth n (-m) m))∧Only [] w w':=by
 have r1:IntKind.i64.wrap (-m)= -m:=by rw[IntKind.wrap_i64];omega
 by_cases h1: -m≤n
 focus
  have a1:decide (-m≤n)=true:=decide_eq_true h1;obtain⟨r,hr⟩:∃ r,decide (n≤m)=r:=⟨_,rfl⟩;rw[show wth n (-m) m=r from by unfold wth;rw[a1,hr];rfl]
 rotate_left
 focus
  have a1:decide (-m≤n)=false:=decide_eq_false h1;rw[show wth n (-m) m=false from by unfold wth;rw[a1];rfl]
 rotate_left
 all_goals
  go_enter Tryz.func148,Tryz.ntmps148
  have OO:=hid (Only.refl [] w);go_wp2;go_ret
  exact⟨rfl,OO.out⟩
theorem pCValid (raw time:Int) (w:World) :
  Calls Tryz.prog 98 #[.agg #[.int .i64 raw,.int .i64 time,.int .i64 0,.int .i64 0,.int .i64 0,.int .i64 0]] w fun e w'=>e=.returned (.bool (isT raw && isT time))∧Only [] w w':=by
 have H1:=hid (fun w'=>pCWithin raw 4503599627370496 (by omega) (by omega) w');have H2:=hid (fun w'=>pCWithin time 4503599627370496 (by omega) (by omega) w');have H3:=hid (fun w'=>pCWithin 0 4503599627370496 (by omega) (by omega) w');have H4:=hid (fun w'=>pCWithin 0 500000 (by omega) (by omega) w');rw[show wth 0 (-4503599627370496) 4503599627370496=true from by rw[wth_iff];omega] at H3;rw[show wth 0 (-500000) 500000=true from by rw[wth_iff];omega] at H4;unfold isT;generalize wth raw (-4503599627370496) 4503599627370496=x1 at H1 ⊢;generalize wth time (-4503599627370496) 4503599627370496=x2 at H2 ⊢
 cases x1
 focus
  go_enter Tryz.func98,Tryz.ntmps98
  go_upto_region 1 with (fail)
  refine alloc_abs (G:=fun w0=>Code.wp _ _ _ _ w0) ?_;intro w1 hb1 ho1 hs1;obtain⟨b1,hbe1⟩:∃ b,w.heap.size=b:=⟨_,rfl⟩;rw[hbe1] at hb1;rw[hbe1];have HN:Hid (w.heap.size≤b1):=hid (by omega);have B1:=hid hb1;have OO:=hid ho1;clear hb1 hs1 hbe1;clear ho1;have k1:=c_6 B1.out;go_wp2_with fail
  refine (H1.out _).mono ?_;rintro e w2 ⟨rfl,ho⟩
 rotate_left
 focus
  cases x2
  focus
   go_enter Tryz.func98,Tryz.ntmps98
   go_upto_region 1 with (fail)
   refine alloc_abs (G:=fun w0=>Code.wp _ _ _ _ w0) ?_;intro w1 hb1 ho1 hs1;obtain⟨b1,hbe1⟩:∃ b,w.heap.size=b:=⟨_,rfl⟩;rw[hbe1] at hb1;rw[hbe1];have HN:Hid (w.heap.size≤b1):=hid (by omega);have B1:=hid hb1;have OO:=hid ho1;clear hb1 hs1 hbe1;clear ho1;have k1:=c_6 B1.out;go_wp2_with fail
   refine (H1.out _).mono ?_;rintro e w2 ⟨rfl,ho⟩;clear k1;replace OO:=hid (OO.out.nil_trans ho);replace B1:=hid (ho.got B1.out (by simp));clear ho;have k1:=c_6 B1.out;go_wp2_with fail
   refine (H2.out _).mono ?_;rintro e w3 ⟨rfl,ho⟩
  rotate_left
  focus
   go_enter Tryz.func98,Tryz.ntmps98
   go_upto_region 1 with (fail)
   refine alloc_abs (G:=fun w0=>Code.wp _ _ _ _ w0) ?_;intro w1 hb1 ho1 hs1;obtain⟨b1,hbe1⟩:∃ b,w.heap.size=b:=⟨_,rfl⟩;rw[hbe1] at hb1;rw[hbe1];have HN:Hid (w.heap.size≤b1):=hid (by omega);have B1:=hid hb1;have OO:=hid ho1;clear hb1 hs1 hbe1;clear ho1;have k1:=c_6 B1.out;go_wp2_with fail
   refine (H1.out _).mono ?_;rintro e w2 ⟨rfl,ho⟩;clear k1;replace OO:=hid (OO.out.nil_trans ho);replace B1:=hid (ho.got B1.out (by simp));clear ho;have k1:=c_6 B1.out;go_wp2_with fail
   refine (H2.out _).mono ?_;rintro e w3 ⟨rfl,ho⟩;clear k1;replace OO:=hid (OO.out.nil_trans ho);replace B1:=hid (ho.got B1.out (by simp));clear ho;have k1:=c_6 B1.out;go_wp2_with fail
   refine (H3.out _).mono ?_;rintro e w4 ⟨rfl,ho⟩;clear k1;replace OO:=hid (OO.out.nil_trans ho);replace B1:=hid (ho.got B1.out (by simp));clear ho;have k1:=c_6 B1.out;go_wp2_with fail
   refine (H4.out _).mono ?_;rintro e w5 ⟨rfl,ho⟩
  rotate_left
 rotate_left 2
 all_goals
  clear k1;replace OO:=hid (OO.out.nil_trans ho);replace B1:=hid (ho.got B1.out (by simp));clear ho;have k1:=c_6 B1.out;go_wp2;go_ret
  exact⟨rfl,OO.out⟩
def CNewR (w0:World) (raw time:Int) (e:Ending) (w:World):Prop:=
 ((isT raw && isT time)=false∧e=.returned (.pointer none))∨((isT raw && isT time)=true∧∃ b,e=.returned (.pointer (some ⟨b,0,none⟩))∧w0.heap.size≤b∧CkAt w b ⟨raw,time,0,0⟩)
theorem pCOf (raw time:Int) (w:World) :
  Calls Tryz.prog 55 #[.agg #[.int .i64 raw,.int .i64 time,.int .i64 0,.int .i64 0,.int .i64 0,.int .i64 0]] w fun e w'=>CNewR w raw time e w'∧Only [] w w':=by
 unfold CNewR;have HV:=hid (fun w'=>pCValid raw time w');generalize (isT raw && isT time)=ok at HV ⊢
 cases ok
 ·go_enter Tryz.func55,Tryz.ntmps55
  go_upto_region 1 with (fail)
  refine alloc_abs (G:=fun w0=>Code.wp _ _ _ _ w0) ?_;intro w1 hb1 ho1 hs1;obtain⟨b1,hbe1⟩:∃ b,w.heap.size=b:=⟨_,rfl⟩;rw[hbe1] at hb1;rw[hbe1];have HN:Hid (w.heap.size≤b1):=hid (by omega);have B1:=hid hb1;have OO:=hid ho1;clear hb1 hs1 hbe1;clear ho1;have k1:=c_6 B1.out;go_wp2_with fail
  refine (HV.out _).mono ?_;rintro e w2 ⟨rfl,ho⟩;clear k1;replace OO:=hid (OO.out.nil_trans ho);replace B1:=hid (ho.got B1.out (by simp));clear ho;have k1:=c_6 B1.out;go_wp2;go_ret
  exact⟨.inl ⟨by first|rfl|trivial,rfl⟩,OO.out⟩
 ·go_enter Tryz.func55,Tryz.ntmps55
  go_upto_region 1 with (fail)
  refine alloc_abs (G:=fun w0=>Code.wp _ _ _ _ w0) ?_;intro w1 hb1 ho1 hs1;obtain⟨b1,hbe1⟩:∃ b,w.heap.size=b:=⟨_,rfl⟩;rw[hbe1] at hb1;rw[hbe1];have HN:Hid (w.heap.size≤b1):=hid (by omega);have B1:=hid hb1;have OO:=hid ho1;clear hb1 hs1 hbe1;clear ho1;have k1:=c_6 B1.out;go_wp2_with fail
  refine (HV.out _).mono ?_;rintro e w2 ⟨rfl,ho⟩;clear k1;replace OO:=hid (OO.out.nil_trans ho);replace B1:=hid (ho.got B1.out (by simp));clear ho;have k1:=c_6 B1.out;go_wp2;refine alloc_abs (G:=fun w0=>bodyPost _ _ _ _ _ w0) ?_;intro w3 hb ho _;go_ret
  exact⟨.inr ⟨by first|rfl|trivial,_,rfl,OO.out.size,hb⟩,OO.out.nil_trans ho⟩
theorem pCNew (raw time:Int) (w:World) :
  Calls Tryz.prog 20 #[.int .i64 raw,.int .i64 time] w fun e w'=>CNewR w raw time e w'∧Only [] w w':=by
 have HO:=hid (pCOf raw time w);go_enter Tryz.func20,Tryz.ntmps20
 go_wp2_with fail
 refine HO.out.mono ?_;rintro e w1 ⟨hr,ho⟩;have HR:=hid hr;have OO:=hid ho;clear hr ho HO;rcases HR.out with ⟨h,rfl⟩|⟨h,b,rfl,hb,hc⟩
 ·have HH:=hid h
  clear h HR;go_wp2;go_ret
  exact⟨.inl ⟨HH.out,rfl⟩,OO.out⟩
 ·have HH:=hid h;have HC:=hid hc;have HB:=hid hb
  clear h HR hb hc;go_wp2;go_ret
  exact⟨.inr ⟨HH.out,b,rfl,HB.out,HC.out⟩,OO.out⟩
theorem pPart (d ppb:Int) (h0:0≤d) (h1:d≤9007199254740992) (h2: -500000≤ppb) (h3:ppb≤500000) (w:World) :
  Calls Tryz.prog 228 #[.int .i64 d,.int .i64 ppb] w fun e w'=>e=.returned (.int .i64 (d*ppb / 1000000000))∧Only [] w w':=by
 have hb:=part_bd h0 h1 h2 h3;have HM:=hid (fun w'=>o_drew (fmuldiv d ppb 1000000000 w' (by omega) (by omega) (by omega) (by omega) (by omega) (by omega)));generalize d*ppb / 1000000000=q at HM hb ⊢;rw[orZ_yes (by omega) (by omega),inI_yes (by omega) (by omega)] at HM;go_enter Tryz.func228,Tryz.ntmps228
 have OO:=hid (Only.refl [] w);go_wp2_with fail
 refine (HM.out _).mono ?_;rintro e w2 ⟨rfl,ho⟩;replace OO:=hid (OO.out.nil_trans ho);clear ho;go_wp2;go_ret
 exact⟨rfl,OO.out⟩
theorem pShown (raw time ppb steps d:Int) (h0:0≤d) (h1:d≤9007199254740992) (h2: -500000≤ppb) (h3:ppb≤500000) (h4: -4503599627370496≤time) (h5:time≤4503599627370496) (w:World) :
  Calls Tryz.prog 147 #[.agg #[.int .i64 raw,.int .i64 time,.int .i64 ppb,.int .i64 0,.int .i64 0,.int .i64 steps],.int .i64 d] w fun e w'=>e=.returned (.int .i64 (time+d+d*ppb / 1000000000))∧Only [] w w':=by
 have hb:=part_bd h0 h1 h2 h3;have HP:=hid (fun w'=>pPart d ppb h0 h1 h2 h3 w');generalize d*ppb / 1000000000=q at HP hb ⊢;have r1:IntKind.i64.wrap (time+d)=time+d:=by rw[IntKind.wrap_i64];omega
 have r2:IntKind.i64.wrap (time+d+q)=time+d+q:=by rw[IntKind.wrap_i64];omega
 go_enter Tryz.func147,Tryz.ntmps147
 go_upto_region 1 with (fail)
 refine alloc_abs (G:=fun w0=>Code.wp _ _ _ _ w0) ?_;intro w1 hb1 ho1 hs1;obtain⟨b1,hbe1⟩:∃ b,w.heap.size=b:=⟨_,rfl⟩;rw[hbe1] at hb1;rw[hbe1];have HN:Hid (w.heap.size≤b1):=hid (by omega);have B1:=hid hb1;have OO:=hid ho1;clear hb1 hs1 hbe1;clear ho1;have k1:=c_6 B1.out;go_wp2_with fail
 refine wp_region_grown [0,1,2,3,4,5] [] (by kernel_rfl) (by kernel_rfl) ?_;simp only[pick,List.map_cons,List.map_nil,List.getD_cons_succ,List.getD_cons_zero];iterate 6 (refine wpQuiet_step (fun K hK=>?_);go_simp;refine hK _ ?_;clear hK K)
 refine wpQuiet_nil ?_;intro w2 hw;have ho:=only_of_plus hw;clear hw;clear k1;replace OO:=hid (OO.out.nil_trans ho);replace B1:=hid (ho.got B1.out (by simp));have k1:=c_6 B1.out;clear ho;go_wp2_with fail
 refine (HP.out _).mono ?_;rintro e w3 ⟨rfl,ho⟩;clear k1;replace OO:=hid (OO.out.nil_trans ho);replace B1:=hid (ho.got B1.out (by simp));clear ho;have k1:=c_6 B1.out;go_wp2;go_ret
 exact⟨rfl,OO.out⟩
theorem pCNow {w:World} {b:Nat} {c:Ck} (hc:CkAt w b c) (hok:CkOk c) (r:Int) (hr0: -9223372036854775808≤r) (hr1:r≤9223372036854775807) :
  Calls Tryz.prog 74 #[.pointer (some ⟨b,0,none⟩),.int .i64 r] w fun e w'=>e=.returned (.tuple #[.int .i64 (cNow c r).1,.int .i64 (cNow c r).2])∧Only [] w w':=by
 obtain⟨raw,time,ppb,steps⟩:=c;obtain⟨g0,g1,g2,g3,g4,g5,_,_⟩:=hok;unfold CkAt at hc;dsimp only at hc g0 g1 g2 g3 g4 g5;have HE:Hid (cNow ⟨raw,time,ppb,steps⟩ r=if r<raw then (0,12) else if 4503599627370496<r then (0,3) else if isT (time+(r-raw)+(r-raw)*ppb / 1000000000)=true then (time+(r-raw)+(r-raw)*ppb / 1000000000,0) else (0,3)):=hid rfl;generalize cNow ⟨raw,time,ppb,steps⟩ r=res at HE ⊢;by_cases h1:r<raw
 ·have d1:decide (r<raw)=true:=decide_eq_true h1
  obtain rfl:res=(0,12):=by rw[HE.out,if_pos h1]
  clear HE;go_enter Tryz.func74,Tryz.ntmps74
  have OO:=hid (Only.refl [] w);have B1:=hid hc;have k1:=c_6 B1.out;go_wp2;go_ret2;exact⟨rfl,OO.out⟩
 ·have d1:decide (r<raw)=false:=decide_eq_false h1
  by_cases h2:4503599627370496<r
  ·have d2:decide (4503599627370496<r)=true:=decide_eq_true h2
   obtain rfl:res=(0,3):=by rw[HE.out,if_neg h1,if_pos h2]
   clear HE;go_enter Tryz.func74,Tryz.ntmps74
   have OO:=hid (Only.refl [] w);have B1:=hid hc;have k1:=c_6 B1.out;go_wp2;go_ret2;exact⟨rfl,OO.out⟩
  ·have d2:decide (4503599627370496<r)=false:=decide_eq_false h2
   obtain⟨e,he⟩:∃ e,r-raw=e:=⟨_,rfl⟩;have heb:0≤e∧e≤9007199254740992:=by omega
   rw[if_neg h1,if_neg h2,he] at HE;have r1:IntKind.i64.wrap (r-raw)=e:=by rw[IntKind.wrap_i64];omega
   have HS:=hid (fun w'=>pShown raw time ppb steps e heb.1 heb.2 g4 g5 g2 g3 w');obtain⟨v,hv⟩:∃ v,time+e+e*ppb / 1000000000=v:=⟨_,rfl⟩;rw[hv] at HE HS;have HW:=hid (fun w'=>pCWithin v 4503599627370496 (by omega) (by omega) w');have HV:Hid (isT v=wth v (-4503599627370496) 4503599627370496):=hid rfl;rw[HV.out] at HE;generalize wth v (-4503599627370496) 4503599627370496=ok at HE HW;clear he hv HV
   cases ok
   focus
    obtain rfl:res=(0,3):=by have:=HE.out;simpa using this
   rotate_left
   focus
    obtain rfl:res=(v,0):=by have:=HE.out;simpa using this
   rotate_left
   all_goals
    clear HE;go_enter Tryz.func74,Tryz.ntmps74
    have OO:=hid (Only.refl [] w);have B1:=hid hc;have k1:=c_6 B1.out;go_wp2_with fail
    refine wp_region_grown [0,1,2,3,4,5,6,7,8,9,10,11,12] [] (by kernel_rfl) (by kernel_rfl) ?_;simp only[pick,List.map_cons,List.map_nil,List.getD_cons_succ,List.getD_cons_zero];iterate 11 (refine wpQuiet_step (fun K hK=>?_);go_simp;refine hK _ ?_;clear hK K)
    refine wpQuiet_enter_w (by kernel_rfl) 147 #[.agg #[.int .i64 raw,.int .i64 time,.int .i64 ppb,.int .i64 0,.int .i64 0,.int .i64 steps],.int .i64 e] (fun _=>by kernel_rfl) (.int .i64 v) (grown_only2 (fun w' hw'=>HS.out w')) ?_;iterate 1 (refine wpQuiet_step (fun K hK=>?_);go_simp;refine hK _ ?_;clear hK K)
    refine wpQuiet_nil ?_;intro w2 hw;have ho:=only_of_plus hw;clear hw;clear k1;replace OO:=hid (OO.out.nil_trans ho);replace B1:=hid (ho.got B1.out (by simp));have k1:=c_6 B1.out;clear ho;go_wp2_with fail
    refine (HW.out _).mono ?_;rintro e w3 ⟨rfl,ho⟩;clear k1;replace OO:=hid (OO.out.nil_trans ho);replace B1:=hid (ho.got B1.out (by simp));clear ho;have k1:=c_6 B1.out;go_wp2;go_ret2;exact⟨rfl,OO.out⟩
end
end Go.Proofs.YtedgpfgccpnjnaaGreat
