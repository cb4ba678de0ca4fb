/- Je Jf -/
import Derived.Test.YtppjhbjmfkiejaaGreatFJc
import Derived.Test.YtppjhbjmfkiejaaGreatFV6
import Derived.Great.Walk
namespace Go.Proofs.YtppjhbjmfkiejaaGreat
open List (flatMap_cons getElem_mem mem_cons mem_flatMap nodup_append nodup_cons not_mem_nil pairwise_cons set_cons_succ set_cons_zero)
set_option maxRecDepth 100000
set_option maxHeartbeats 16000000
open IntKind (wrap)
section
open Go.RowKit
def NewR (w0:World) (c:Cf) (raw time:Int) (e:Ending) (w:World):Prop:=
 ((fQ raw && fQ time)=false/\e=.returned (.pointer none))\/((fQ raw && fQ time)=true/\∃ P,e=.returned (.pointer (some ⟨P.bc,0,none⟩))/\bP w P (I8 c raw time)/\∀ b∈P.all,w0.heap.size<=b)
theorem NwS.done {w:World} {c:Cf} {raw time:Int} {bk bv bc:Nat} {wr:World} {ps:List (Nat × Nat × Nat)} {v:Value} (h:NwS w c raw time bk bv bc wr ps v) (h0:0<ps.length) (hn:ps.length=c.servers.toNat) :
  ∃ P:Pl,P.bc=bc/\bP wr P (I8 c raw time)/\∀ b∈P.all,w.heap.size<=b:=by
 obtain⟨h1,h2,h3,h4,h5,h6,h7,h8⟩:=h;rcases h4 with ⟨_,he⟩|⟨g,cap,rfl,hg,hr⟩
 ·have:=congrArg List.length he
  simp at this;subst this;simp at h0
 ·have hl:(List.map (fun x=>x.1) ps).length=ps.length:=by simp
  simp only[Value.ownBlock,Option.toList_some,List.cons_append,List.nil_append] at h6 h7;refine⟨⟨bc,bk,bv,g,cap,ps⟩,rfl,⟨?_,h2,h3,hr,?_,?_,h6,fun b hb=>(h7 b hb).2⟩,fun b hb=>(h7 b hb).1⟩
  ·unfold mW
   rw[h1,hl];rfl
  ·simp[I8,hn]
  ·intro i hi hi'
   have:(I8 c raw time).srcs[i]=pU c:=by simp[I8]
   rw[this];exact h5 _ (getElem_mem _)
theorem pClNew (c:Cf) (raw time:Int) (hc:eZ c=0) (hs:tQ c.sv=0) (h1:1<=c.servers/\c.servers<=12) (h2:0<=c.tol/\c.tol<=500000) (w:World) :
  Calls Tryz.prog 43 #[JB c,.int .i64 raw,.int .i64 time] w fun e w'=>NewR w c raw time e w'/\Oy [] w w':=by
 obtain⟨sr,tl,pr,kp,⟨sk,si,sm,sf,sl⟩,ra,mn,mx⟩:=c;have HCH:=aA (fun w'=>QW ⟨sr,tl,pr,kp,⟨sk,si,sm,sf,sl⟩,ra,mn,mx⟩ w');rw[hc] at HCH;have HSV:=aA (fun w'=>pSvNew ⟨sk,si,sm,sf,sl⟩ hs w');have HEV:=aA (fun w'=>H8 w');have HCN:=aA (fun w'=>pCNew raw time w');have HAN2:=aA (fun w'=>(pANew w').mono (fun e w'' h=>(⟨⟨_,h.1,Nat.le_refl _,h.2.1⟩,h.2.2⟩:(∃ b,e=.returned (.pointer (some ⟨b,0,none⟩))/\w'.heap.size<=b/\uW w'' b VY)/\Oy [] w' w'')));have HFN:=aA (fun w'=>pFNew tl h2.1 h2.2 w');dsimp only at h1 h2;have HRES:Hid (∀ e w',NewR w ⟨sr,tl,pr,kp,⟨sk,si,sm,sf,sl⟩,ra,mn,mx⟩ raw time e w'↔NewR w ⟨sr,tl,pr,kp,⟨sk,si,sm,sf,sl⟩,ra,mn,mx⟩ raw time e w'):=aA (fun _ _=>Iff.rfl);unfold JB at HCH |-;unfold scV at HSV;unfold dV N7 at HEV;dsimp only at HCH HSV HEV |-;obtain⟨n,rfl⟩:∃ n:Nat,sr=(n:Int):=⟨sr.toNat,by omega⟩;go_enter Tryz.func43,Tryz.ntmps43
 go_upto_region 1 with (fail)
 refine aG (G:=fun w0=>Code.wp _ _ _ _ w0) ?_;intro w1 hb1 ho1 hs1;obtain⟨b1,hbe1⟩:∃ b,w.heap.size=b:=⟨_,rfl⟩;rw[hbe1] at hb1;rw[hbe1];have HN:Hid (w.heap.size<=b1):=aA (by omega);have B1:=aA hb1;have OO:=aA ho1;clear hb1 hs1 hbe1;clear ho1;have k1:=c_12 B1.out;go_wp2_with fail
 refine (HCH.out _).mono ?_;rintro e w2 ⟨rfl,ho⟩;clear k1;replace OO:=aA (OO.out.aB ho);replace B1:=aA (ho.got B1.out (by simp));clear ho;have k1:=c_12 B1.out;go_wp2_with fail
 have HWS:=aA OO.out.size;refine (HCN.out _).mono ?_;rintro e w3 ⟨hr,ho⟩;clear k1;have HR:=aA hr;replace OO:=aA (OO.out.aB ho);replace B1:=aA (ho.got B1.out (by simp));have HO3:=aA ho;clear ho hr;have k1:=c_12 B1.out;rcases HR.out with ⟨hb,rfl⟩|⟨hb,bk,rfl,hkn,hck⟩
 ·have HB:=aA hb
  clear hb HR;go_wp2;go_ret
  exact⟨.inl ⟨HB.out,rfl⟩,OO.out⟩
 ·have HB:=aA hb;have HCK:=aA hck;have HKN:=aA hkn
  clear hb HR hck hkn;have hbk:=aF HCK.out;go_upto_region 6 with (fail)
  refine dG [0,1,2,3,5,7,8] [] (OnlyC ([]:List Nat) w3) (by kernel_rfl) (by kernel_rfl) ?_;simp only[bV];iterate 7 (refine aJ (fun K hK=>?_);go_simp;refine hK _ ?_;clear hK K)
  refine aK ?_;refine Rest.by (X:=Nat × Nat) (fun y a=>((((a.put (some 21) (.pointer (some ⟨y.1,0,none⟩))).put (some 23) (.agg #[.int .i64 (-4503599627370496),.int .i64 4503599627370496])).put (some 26) (.agg #[.int .i64 (n:Int),.int .i64 tl,.int .i64 pr,.int .i64 kp,.int .i64 sk,.int .i64 si,.int .i64 sm,.int .i64 sf,.int .i64 sl,.int .i64 ra,.int .i64 mn,.int .i64 mx,.pointer (some ⟨bk,0,none⟩),.pointer (some ⟨y.1,0,none⟩),.slice none 0 0,.int .i64 raw,.int .i64 (-4503599627370496),.int .i64 4503599627370496,.int .i64 raw,.int .i64 16,.int .i64 0,.int .i64 0,.int .u32 0,.bool false,.int .i64 0])).put (some 27) (.pointer (some ⟨y.2,0,none⟩))).put (some 8) (.pointer (some ⟨y.2,0,none⟩))) (fun y w'=>mH w' y.1 ⟨⟨sk,si,sm,sf,sl⟩,0,0,0⟩/\w'.heap[y.2]? = some (.cells #[.int .i64 (n:Int),.int .i64 tl,.int .i64 pr,.int .i64 kp,.int .i64 sk,.int .i64 si,.int .i64 sm,.int .i64 sf,.int .i64 sl,.int .i64 ra,.int .i64 mn,.int .i64 mx,.pointer (some ⟨bk,0,none⟩),.pointer (some ⟨y.1,0,none⟩),.slice none 0 0,.int .i64 raw,.int .i64 (-4503599627370496),.int .i64 4503599627370496,.int .i64 raw,.int .i64 16,.int .i64 0,.int .i64 0,.int .u32 0,.bool false,.int .i64 0] 176 (0,0))/\w3.heap.size<=y.1/\w3.heap.size<=y.2/\y.1≠y.2/\Oy [] w3 w') ?_ ?_
  rotate_left
  ·have O0:=aA (aR [] w3).drew
   refine aL [4] (by kernel_rfl) (by simp) (.inr (bC O0.out)) ?_;simp only[eD];refine aD rfl ?_;go_wp2_with fail
   refine (HSV.out _).mono ?_;rintro e x1 ⟨⟨bv,rfl,hvn,hsv⟩,ho⟩;have HVN:Hid (w3.heap.size<=bv):=aA (Nat.le_trans O0.out.size hvn);replace O0:=aA (O0.out.aB ho);have HVA:=aA hsv;clear ho hvn hsv;go_wp2;simp only[bA];refine aL [6] (by kernel_rfl) (by simp) (.inr (bC O0.out)) ?_;simp only[eD];refine aD rfl ?_;go_wp2_with fail
   refine (HEV.out _).mono ?_;rintro e x2 ⟨rfl,ho⟩;replace O0:=aA (O0.out.aB ho);replace HVA:Hid (mH x2 bv ⟨⟨sk,si,sm,sf,sl⟩,0,0,0⟩):=aA (ho.got HVA.out (by simp));clear ho;go_wp2;simp only[bA];refine aL [9] (by kernel_rfl) (by simp) (.inr (bC O0.out)) ?_;simp only[eD];refine aD rfl ?_;go_wp2;simp only[bA];refine aL [10] (by kernel_rfl) (by simp) (.inr (bC O0.out)) ?_;simp only[eD];refine aD rfl ?_;go_wp2;simp only[bA];refine aG (G:=fun w0=>fD _ _ _ _ _ _ _ _ _ w0) ?_;intro x3 hb0 ho0 _;obtain⟨bc,hbc⟩:∃ b,x2.heap.size=b:=⟨_,rfl⟩;rw[hbc] at hb0;rw[hbc];have HBC:Hid (w3.heap.size<=bc):=aA (by rw[<-hbc];exact O0.out.size);have HNE:Hid (bv≠bc):=aA (by have:=aF HVA.out;omega);replace HVA:Hid (mH x3 bv ⟨⟨sk,si,sm,sf,sl⟩,0,0,0⟩):=aA (ho0.got HVA.out (by simp));replace O0:=aA (O0.out.aB ho0);have HB0:=aA hb0;clear hb0 ho0 hbc;refine aL [11] (by kernel_rfl) (by simp) (.inr (bC O0.out)) ?_;simp only[eD];refine aD rfl ?_;go_wp2;simp only[bA];exact dX (by kernel_rfl) (.inr (bC O0.out)) ⟨(bv,bc),by simp[Act.put],HVA.out,HB0.out,HVN.out,HBC.out,HNE.out,O0.out⟩
  rintro⟨bv,bc⟩ w4 ⟨hsv,hcl,hvn,hcn,hne,ho⟩;dsimp only at hsv hcl hvn hcn hne;simp only[Act.put,List.setIfInBounds_toArray,set_cons_succ,set_cons_zero]
  have HNW:Hid (NwS w ⟨(n:Int),tl,pr,kp,⟨sk,si,sm,sf,sl⟩,ra,mn,mx⟩ raw time bk bv bc w4 [] (.slice none 0 0)):=aA ⟨hcl,ho.got HCK.out (by simp),hsv,bR _ _,fun p hp=>by simp at hp,by
   simp[S9,Value.ownBlock];omega,fun b hb=>by
   simp only[Value.ownBlock,Option.toList_none,S9,List.flatMap_nil,List.append_nil,mem_cons,not_mem_nil,or_false] at hb;have:=ho.size;have:=aF hcl;have:=aF hsv;have:=HKN.out;have:=HO3.out.size;have:=HWS.out;rcases hb with rfl|rfl|rfl
   ·exact⟨by omega,by omega⟩
   ·exact⟨by omega,by omega⟩
   ·exact⟨by omega,by omega⟩,OO.out.aB ho⟩
  clear k1;have B4:=aA (ho.got B1.out (by simp));have HBC1:Hid (b1≠bc):=aA (by have:=aF B1.out;omega);clear hsv hcl hvn hcn hne ho HCK HKN B1 OO HO3 hbk;have k1_0:=aC B4.out 0;have l1:=aF B4.out;go_wp2_with fail
  clear k1_0 l1;obtain⟨wo,rfl⟩:∃ wo:World,wo=w4:=⟨_,rfl⟩;go_loopw [30] (fun vi wr=>∃ (k:Nat) (ps:List (Nat × Nat × Nat)) (v:Value),k<=n/\vi=.int .i64 k/\ps.length=k/\NwS w ⟨(n:Int),tl,pr,kp,⟨sk,si,sm,sf,sl⟩,ra,mn,mx⟩ raw time bk bv bc wr ps v/\b1 ∉ v.ownBlock.toList/\Oy [] w wr/\wr.heap[b1]? = some (.cells #[.int .i64 (n:Int),.int .i64 tl,.int .i64 pr,.int .i64 kp,.int .i64 sk,.int .i64 si,.int .i64 sm,.int .i64 sf,.int .i64 sl,.int .i64 ra,.int .i64 mn,.int .i64 mx] 31 (0,0))) (fun vi _=>n-(intOf vi).toNat)
  case atStart=>exact⟨0,[],_,Nat.zero_le _,rfl,rfl,HNW.out,by simp[Value.ownBlock],HNW.out.only,B4.out⟩
  case round =>
   obtain⟨k,ps,v,hk,rfl,hpl,hnw,hvb,ho,hbx⟩:=hrel;have HXB:=aA hvb;clear hvb;have NW:=aA hnw;have BX:=aA hbx;have OW:=aA ho;clear hnw hbx ho HNW B4;by_cases hlt:k<n
   ·skip
    obtain⟨S,hS⟩:∃ S,v.ownBlock.toList=S:=⟨_,rfl⟩
    have hbS:bc ∉ S:=by
     rw[<-hS];intro h;have:=NW.out.nd;simp only[nodup_cons,mem_cons,List.mem_append,not_or] at this;exact this.1.2.2.1 h
    have hxS:b1 ∉ S:=by rw[<-hS];exact HXB.out
    have HSS:=aA hS;clear hS;have hcl:=NW.out.cl;unfold clN at hcl;have k14:=aC hcl 14;have z14:=aM hcl 14;have lc:=aF hcl;have q1:=aC BX.out 1;have q6:=aC BX.out 10;have q7:=aC BX.out 11;have lx:=aF BX.out;have HL:Hid ((ps.map (·.1)).length=k):=aA (by rw[List.length_map];exact hpl);have hkb:k+1<=12:=by omega
    have HLT:=aA hlt;clear hcl hlt;go_upto_region 9 with (fail)
    refine dG [0,1,2,3,4,6,7,9,10,11,12,13,14,15] [20,21,22] (OnlyC S wr) (by kernel_rfl) (by kernel_rfl) ?_;simp only[bV];iterate 14 (refine aJ (fun K hK=>?_);go_simp;refine hK _ ?_;clear hK K)
    refine aK ?_;refine Rest.by (X:=Nat × Nat × Nat × Nat × Nat × Nat) (fun y a=>(((((((a.put (some 37) (.pointer (some ⟨y.1,0,none⟩))).put (some 40) (.pointer (some ⟨y.2.1,0,none⟩))).put (some 48) (.agg #[.pointer (some ⟨y.1,0,none⟩),.pointer (some ⟨y.2.1,0,none⟩),.int .i64 0,.int .i64 0,.int .i64 mn,.int .i64 mn,.int .i64 mx,.int .i64 0,.int .i64 0,.int .i64 0,.int .i64 0,.int .i64 0,.int .i64 0,.int .i64 0,.int .i64 0,.int .u32 0,.int .u32 0,.int .u32 0,.int .u64 0,.int .u64 0,.int .u64 0,.int .u64 0,.int .i64 0,.int .i64 0,.int .i64 0,.int .u32 0,.int .i64 0,.int .i64 0,.int .i64 0])).put (some 49) (.pointer (some ⟨y.2.2.1,0,none⟩))).put (some 50) (.slice (some ⟨y.2.2.2.1,0,none⟩) 1 1)).put (some 51) (.slice (some ⟨y.2.2.2.2.1,0,none⟩) ((ps.map (·.1)).length+1) y.2.2.2.2.2)).put (some 52) (.pointer (some ⟨bc,0,none⟩))).put (some 53) (.pointer (some ⟨bc,14,none⟩))) (fun y w'=>NwS w ⟨(n:Int),tl,pr,kp,⟨sk,si,sm,sf,sl⟩,ra,mn,mx⟩ raw time bk bv bc w' (ps ++ [(y.2.2.1,y.1,y.2.1)]) (.slice (some ⟨y.2.2.2.2.1,0,none⟩) ((ps.map (·.1)).length+1) y.2.2.2.2.2)/\b1≠y.2.2.2.2.1/\w'.heap[b1]? = some (.cells #[.int .i64 (n:Int),.int .i64 tl,.int .i64 pr,.int .i64 kp,.int .i64 sk,.int .i64 si,.int .i64 sm,.int .i64 sf,.int .i64 sl,.int .i64 ra,.int .i64 mn,.int .i64 mx] 31 (0,0))) ?_ ?_
    rotate_left
    ·have O0:=aA (aR [] wr).drew
     refine aL [5] (by kernel_rfl) (by simp) (.inr (bC (O0.out.weak (by simp)))) ?_;simp only[eD];refine aD rfl ?_;go_wp2_with fail
     refine (HAN2.out _).mono ?_;rintro e x1 ⟨⟨sa,rfl,han,hsa⟩,ho⟩;have HAN1:Hid (wr.heap.size<=sa):=aA (Nat.le_trans O0.out.size han);have HSA:=aA hsa;replace O0:=aA (O0.out.aB ho);clear ho han hsa;go_wp2;simp only[bA];refine aL [8] (by kernel_rfl) (by simp) (.inr (bC (O0.out.weak (by simp)))) ?_;simp only[eD];refine aD rfl ?_;go_wp2_with fail
     refine (HFN.out _).mono ?_;rintro e x2 ⟨⟨sf0,rfl,hfn,hsf⟩,ho⟩;have HFN1:Hid (wr.heap.size<=sf0):=aA (Nat.le_trans O0.out.size hfn);have HSF:=aA hsf;have HAF:Hid (sa≠sf0):=aA (by have:=HSA.out.lt;omega);replace HSA:=aA (HSA.out.kept ho (by simp));replace O0:=aA (O0.out.aB ho);clear ho hfn hsf;go_wp2;simp only[bA];refine aL [16] (by kernel_rfl) (by simp) (.inr (bC (O0.out.weak (by simp)))) ?_;simp only[eD];refine aD rfl ?_;go_wp2;simp only[bA];refine aL [17] (by kernel_rfl) (by simp) (.inr (bC (O0.out.weak (by simp)))) ?_;simp only[eD];refine aD rfl ?_;go_wp2;simp only[bA];refine aG (G:=fun w0=>fD _ _ _ _ _ _ _ _ _ w0) ?_;intro x3 hb0 ho0 hz;clear hz;obtain⟨sb,hbc⟩:∃ b,x2.heap.size=b:=⟨_,rfl⟩;rw[hbc] at hb0;rw[hbc];have HSB1:Hid (wr.heap.size<=sb):=aA (by rw[<-hbc];exact O0.out.size);have HBA:Hid (sb≠sa):=aA (by have:=HSA.out.lt;omega);have HBF:Hid (sb≠sf0):=aA (by have:=HSF.out.lt;omega);replace HSA:=aA (HSA.out.kept ho0 (by simp));replace HSF:=aA (HSF.out.kept ho0 (by simp));replace O0:=aA (O0.out.aB ho0);have HSB:Hid (yK x3 sb sa sf0 (pU ⟨(n:Int),tl,pr,kp,⟨sk,si,sm,sf,sl⟩,ra,mn,mx⟩)):=aA hb0;clear hb0 ho0 hbc;refine aL [18] (by kernel_rfl) (by simp) (.inr (bC (O0.out.weak (by simp)))) ?_;simp only[eD];refine aD rfl ?_;go_wp2;simp only[bA];refine aG (G:=fun w0=>fD _ _ _ _ _ _ _ _ _ w0) ?_;intro x4 hb0 ho0 hz;clear hz;obtain⟨ad,hbc⟩:∃ b,x3.heap.size=b:=⟨_,rfl⟩;rw[hbc] at hb0;rw[hbc];replace HSA:=aA (HSA.out.kept ho0 (by simp));replace HSF:=aA (HSF.out.kept ho0 (by simp));replace HSB:Hid (yK x4 sb sa sf0 (pU ⟨(n:Int),tl,pr,kp,⟨sk,si,sm,sf,sl⟩,ra,mn,mx⟩)):=aA (ho0.got HSB.out (by simp));replace O0:=aA (O0.out.aB ho0);have HAD:=aA hb0;clear hb0 ho0 hbc;refine aL [19] (by kernel_rfl) (by simp) (.inr (bC (O0.out.weak (by simp)))) ?_;simp only[eD];refine aD rfl ?_;refine yO (B:=w.heap.size) rfl _ _ 174 rfl 177 (.pointer none) 1 8 Tryz.underlying174 (by kernel_rfl) rfl (by decide) lH X4 (ps.map (·.1)) v rfl (NW.out.own.kept O0.out) ad sb rfl (fun j u hj=>by rw[aC HAD.out,<-hj];simp[wZ]) (by rw[HL.out];simp[maxLen];omega) (by rw[HL.out];omega) (Nat.le_trans NW.out.only.size O0.out.size) ?_;intro g' cap' x5 hown ho5 hg;have NX:=aA (NW.out.push O0.out HSB.out HSA.out HSF.out HSB1.out HAN1.out HFN1.out HBA.out HBF.out HAF.out hown ho5 hg)
     have HB1G:Hid (b1≠g'):=aA (by
      rcases hg with hg|hg
      ·intro e;exact HXB.out (by rw[hg,<-e];simp)
      ·have h1:=aF (O0.out.got BX.out (by simp));omega)
     rw[HSS.out] at ho5;have hcl5:=ho5.got (O0.out.got NW.out.cl (by simp)) hbS;unfold clN at hcl5;have BX5:=aA (ho5.got (O0.out.got BX.out (by simp)) hxS);have HC5:=aA (bC ((O0.out.weak (S':=S) (by simp)).trans ho5 (fun x hx=>.inl hx)));clear hown ho5 hg k14 z14 lc q1 q6 q7 lx;have y14:=aC hcl5 14;have f14:=aM hcl5 14;have lc5:=aF hcl5;go_wp2;simp only[bA];refine aL [20] (by kernel_rfl) (by simp) (.inr HC5.out) ?_;simp only[eD];refine aD rfl ?_;go_wp2;simp only[bA];refine aL [21] (by kernel_rfl) (by simp) (.inr HC5.out) ?_;simp only[eD];refine aD rfl ?_;go_wp2;simp only[bA];refine aL [22] (by kernel_rfl) (by simp) (.inr HC5.out) ?_;simp only[eD];refine aD rfl ?_;go_wp2;simp only[bA];exact dX (by kernel_rfl) (.inl (aT (by kernel_rfl))) ⟨sa,sf0,sb,ad,g',cap',by simp,(by have:=NX.out;rw[HL.out] at this;exact this),HB1G.out,iQ _ BX5.out HBC1.out⟩
    rintro⟨sa,sf0,sb,ad,g',cap'⟩ w5 ⟨hnw,hgb,hbx⟩;dsimp only at hnw hgb hbx;simp only[Act.put,List.setIfInBounds_toArray,set_cons_succ,set_cons_zero];have NX:=aA hnw;have HGB:=aA hgb;have BY:=aA hbx;clear hnw hgb hbx k14 z14 lc q1 q6 q7 lx;go_wp2;go_roundw
    case rel=>exact⟨k+1,_,_,by have:=HLT.out;omega,by go_num,by rw[List.length_append,hpl];rfl,NX.out,by simpa [Value.ownBlock] using HGB.out,NX.out.only,BY.out⟩
    case measure=>first|(simp[intOf];done)|(have:=HLT.out;simp[intOf];omega)
   ·obtain rfl:k=n:=by omega
    obtain⟨P,rfl,hP,hPl⟩:=NW.out.done (by omega) (by rw[hpl];simp);have HP:=aA (And.intro hP hPl);clear hP hPl hlt;go_wp2;go_ret
    exact⟨.inr ⟨HB.out,P,rfl,HP.out.1,HP.out.2⟩,OW.out⟩
end
section
open Go.RowKit
def aI (c:Cl) (raw:Int):Int × Int × Cl:=if (aZ c raw).2=0 then ((aZ c raw).1,0,{ c with last:=raw }) else ((aZ c raw).1,(aZ c raw).2,c)
theorem bP.TI {w w':World} {P:Pl} {c c':Cl} (h:bP w P c) (ho:Oy [P.bc] w w') (hb:mW w' P c') (h1:c'.ck=c.ck) (h2:c'.sv=c.sv) (h3:c'.srcs=c.srcs):bP w' P c':=by
 have hnd:=h.nd;unfold Pl.all at hnd;simp only[nodup_cons,mem_cons,not_or] at hnd;obtain⟨⟨n1,n2,n3,n4⟩,_⟩:=hnd
 have key:∀ i (hi:i<P.ps.length),∀ x∈[P.ps[i].1,P.ps[i].2.1,P.ps[i].2.2],x ∉ [P.bc]:=fun i hi x hx hm=>by
  simp only[mem_cons,not_mem_nil,or_false] at hm;exact n4 (hm ▸ mem_flatMap.2 ⟨P.ps[i],getElem_mem hi,hx⟩)
 refine⟨hb,?_,?_,h.row.kept ho (by simpa using Ne.symm n3),h3 ▸ h.len,?_,h.nd,fun b hb=>Nat.lt_of_lt_of_le (h.lt b hb) ho.size⟩
 ·rw[h1];exact ho.got h.ck (by simpa using Ne.symm n1)
 ·rw[h2];exact ho.got h.sv (by simpa using Ne.symm n2)
 ·rw[h3]
  exact fun i hi hi'=>(h.src i hi hi').kept ho (key i hi _ (by simp)) (key i hi _ (by simp)) (key i hi _ (by simp))
theorem qQ {w:World} {P:Pl} {c:Cl} (h:bP w P c) (hok:jE c.ck) (raw:Int) (h0: -9223372036854775808<=raw) (h1:raw<=9223372036854775807) :
  Calls Tryz.prog 148 #[.pointer (some ⟨P.bc,0,none⟩),.int .i64 raw] w fun e w'=>e=.returned (.tuple #[.int .i64 (aI c raw).1,.int .i64 (aI c raw).2.1])/\mW w' P (aI c raw).2.2/\Oy [P.bc] w w':=by
 have HN:=aA (fun w' (ho:Oy [] w w')=>CB (h.kept ho) hok raw h0 h1);have hl:=h.cl;unfold mW at hl;have HE:Hid (aI c raw=if (aZ c raw).2=0 then ((aZ c raw).1,0,{ c with last:=raw }) else ((aZ c raw).1,(aZ c raw).2,c)):=aA rfl;generalize aI c raw=res at HE |-;have HXN:Hid (∃ x,x=aZ c raw):=aA ⟨_,rfl⟩;generalize aZ c raw=nn at HE HN;obtain⟨nv,ne⟩:=nn;dsimp only at HE HN;by_cases hz:ne=0
 ·subst hz
  obtain rfl:res=(nv,0,{ c with last:=raw }):=by have:=HE.out;simpa using this
  clear HE;go_enter Tryz.func148,Tryz.ntmps148
  have OO:=aA (aR [P.bc] w);have B1:=aA hl;have k1:=nZ B1.out;go_wp2_with fail
  refine (HN.out _ (aR [] w)).mono ?_;rintro e w2 ⟨rfl,ho⟩;clear k1;replace OO:=aA (OO.out.aB ho);replace B1:=aA (ho.got B1.out (by simp));clear ho;have k1:=nZ B1.out;go_upto_region 4 with (fail)
  refine kZ (G:=fun w0=>Code.wp _ _ _ _ w0) (R:=fun w3=>w3.heap[P.bc]? = some (.cells #[.int .i64 c.cf.servers,.int .i64 c.cf.tol,.int .i64 c.cf.prec,.int .i64 c.cf.keep,.int .i64 c.cf.sv.kp,.int .i64 c.cf.sv.ki,.int .i64 c.cf.sv.lim,.int .i64 c.cf.sv.sf,.int .i64 c.cf.sv.sl,.int .i64 c.cf.rate,.int .i64 c.cf.mn,.int .i64 c.cf.mx,.pointer (some ⟨P.bk,0,none⟩),.pointer (some ⟨P.bv,0,none⟩),.slice (some ⟨P.g,0,none⟩) P.ps.length P.cap,.int .i64 raw,.int .i64 c.own.lo,.int .i64 c.own.hi,.int .i64 c.owned,.int .i64 c.rt.str,.int .i64 c.rt.dly,.int .i64 c.rt.dsp,.int .u32 c.rt.ref,.bool c.st,.int .i64 c.rd] 176 (0,0))/\Oy [P.bc] w w3) ⟨(aH (o:=15) (.int .i64 raw) B1.out),(OO.out.setCell (.inl (by simp)) _)⟩ ?_;rintro w3 ⟨g1,ho⟩;clear k1;replace B1:=aA g1;replace OO:=aA ho;clear ho g1;have k1:=nZ B1.out;go_wp2;go_ret2;exact⟨rfl,B1.out,OO.out⟩
 ·have q1:(ne == 0)=false:=by simpa using hz
  obtain rfl:res=(nv,ne,c):=by have:=HE.out;simpa [hz] using this
  clear HE hz;go_enter Tryz.func148,Tryz.ntmps148
  have OO:=aA (aR [P.bc] w);have B1:=aA hl;have k1:=nZ B1.out;go_wp2_with fail
  refine (HN.out _ (aR [] w)).mono ?_;rintro e w2 ⟨rfl,ho⟩;clear k1;replace OO:=aA (OO.out.aB ho);replace B1:=aA (ho.got B1.out (by simp));clear ho;have k1:=nZ B1.out;go_wp2;go_ret2;exact⟨rfl,B1.out,OO.out⟩
end
section
open Go.RowKit
theorem tT {α β:Type} {f:α->List β}:∀ {l:List α} {x:α},(l.flatMap f).Nodup->x∈l->(f x).Nodup
 | a::l,x,h,hx=>by
  rw[flatMap_cons,nodup_append] at h;rcases mem_cons.1 hx with rfl|hx
  ·exact h.1
  ·exact tT h.2.1 hx
def iF (s:Sr) (raw now nonce:Int):Np × Int × Sr:=if (l9 s.sa now nonce).2.1=0 then ({ (l9 s.sa now nonce).1 with poll:=(oM s.rc).poll },0,{ s with sa:=(l9 s.sa now nonce).2.2,sent:=raw,rc:=oM s.rc }) else (zA,(l9 s.sa now nonce).2.1,{ s with sa:=(l9 s.sa now nonce).2.2 })
theorem fV (c:Cl) (raw:Int):(aI c raw).2.2.ck=c.ck/\(aI c raw).2.2.sv=c.sv/\(aI c raw).2.2.srcs=c.srcs:=by
 unfold aI;split<;>exact⟨rfl,rfl,rfl⟩
theorem X7 {P:Pl} (hnd:P.all.Nodup) {i:Nat} (hi:i<P.ps.length) {pb pa pf:Nat} (hp:P.ps[i]=(pb,pa,pf)):(P.bc≠pb/\P.bc≠pa/\P.bc≠pf/\P.g≠P.bc/\P.g≠pb/\P.g≠pa)/\pb≠pa/\pb≠pf/\pa≠pf:=by
 unfold Pl.all at hnd;simp only[nodup_cons,mem_cons,not_or] at hnd;obtain⟨⟨n1,n2,n3,n4⟩,⟨n5,n6,n7⟩,⟨n8,n9⟩,n10,n11⟩:=hnd;have key:∀ x∈[pb,pa,pf],x∈P.ps.flatMap fun p=>[p.1,p.2.1,p.2.2]:=fun x hx=>mem_flatMap.2 ⟨P.ps[i],getElem_mem hi,by rw[hp];exact hx⟩;have h3:=tT n11 (getElem_mem hi);rw[hp] at h3;simp only[nodup_cons,mem_cons,not_or,not_mem_nil,or_false,not_false_eq_true,List.nodup_nil,and_true] at h3;exact⟨⟨fun e=>n4 (e ▸ key pb (by simp)),fun e=>n4 (e ▸ key pa (by simp)),fun e=>n4 (e ▸ key pf (by simp)),Ne.symm n3,fun e=>n10 (e ▸ key pb (by simp)),fun e=>n10 (e ▸ key pa (by simp))⟩,h3.1.1,h3.1.2,h3.2⟩
theorem bP.ptr {w:World} {P:Pl} {c:Cl} (h:bP w P c) {i:Nat} (hi:i<P.ps.length):P.g<w.heap.size/\w.cell? ⟨P.g,i,none⟩=some (.pointer (some ⟨P.ps[i].1,0,none⟩)):=by
 have:=h.row.cell lH (i:=i) (j:=0) (x:=P.ps[i].1) (by rw[List.getElem?_map,List.getElem?_eq_getElem hi];rfl) (by decide);exact⟨h.row.lt,by simpa [wZ] using this⟩
set_option synthInstance.maxSize 2000 in
set_option synthInstance.maxHeartbeats 400000 in
theorem pClSend {w:World} {P:Pl} {c:Cl} (h:bP w P c) (hok:jE c.ck) (raw:Int) (h0: -9223372036854775808<=raw) (h1:raw<=9223372036854775807) (nonce:Int) (i:Nat) (hi:i<P.ps.length) (he:(aI c raw).2.1=0) :
  Calls Tryz.prog 146 #[.pointer (some ⟨P.bc,0,none⟩),.int .i64 i,.int .i64 raw,.int .u64 nonce] w fun e w'=>∃ (hi':i<c.srcs.length),e=.returned (.tuple #[iR (iF c.srcs[i] raw (aI c raw).1 nonce).1,.int .i64 (iF c.srcs[i] raw (aI c raw).1 nonce).2.1])/\(mW w' P (aI c raw).2.2/\tJ w' P.ps[i] (iF c.srcs[i] raw (aI c raw).1 nonce).2.2)/\Oy [P.bc,P.ps[i].1,P.ps[i].2.1] w w':=by
 have hic:i<c.srcs.length:=h.len ▸ hi;suffices HW:Calls Tryz.prog 146 #[.pointer (some ⟨P.bc,0,none⟩),.int .i64 i,.int .i64 raw,.int .u64 nonce] w fun e w'=>e=.returned (.tuple #[iR (iF c.srcs[i] raw (aI c raw).1 nonce).1,.int .i64 (iF c.srcs[i] raw (aI c raw).1 nonce).2.1])/\(mW w' P (aI c raw).2.2/\tJ w' P.ps[i] (iF c.srcs[i] raw (aI c raw).1 nonce).2.2)/\Oy [P.bc,P.ps[i].1,P.ps[i].2.1] w w' from HW.mono fun e w' h=>⟨hic,h⟩
 have hn12:P.ps.length<=9223372036854775807:=by
  obtain⟨cur,_,_,g1,g2,_⟩:=h.row;rw[List.length_map] at g1;exact Nat.le_trans (Nat.le_trans g1 g2) (by decide)
 obtain⟨pb,pa,pf,hp⟩:∃ pb pa pf,P.ps[i]=(pb,pa,pf):=⟨_,_,_,rfl⟩;obtain⟨⟨d1,d2,d3,d4,d5,d6⟩,d7,d8,d9⟩:=X7 h.nd hi hp;have hps:∀ x∈[pb,pa,pf],x∈P.all:=fun x hx=>by unfold Pl.all;simp only[mem_cons];exact .inr (.inr (.inr (.inr (mem_flatMap.2 ⟨P.ps[i],getElem_mem hi,by rw[hp];exact hx⟩))))
 have lbc:=h.lt P.bc (by simp[Pl.all]);have lpb:=h.lt pb (hps _ (by simp));have lpa:=h.lt pa (hps _ (by simp));have lpf:=h.lt pf (hps _ (by simp));have HEN:=aA (fun w' (o:Oy [] w w')=>qQ (h.kept o) hok raw h0 h1);have HO:=aA (fun w'=>gK i 0 ((P.ps.length:Int)-1) w');rw[show bZ (i:Int) 0 ((P.ps.length:Int)-1)=true from aY.2 ⟨by omega,by omega⟩] at HO;have r1:wrap .i64 ((P.ps.length:Int)-1)=(P.ps.length:Int)-1:=by rw[IntKind.wrap_i64];omega
 obtain⟨now,er,c1,hce⟩:∃ now er c1,aI c raw=(now,er,c1):=⟨_,_,_,rfl⟩;have HSM:=fV c raw;rw[hce] at HEN he HSM |-;obtain rfl:er=0:=he;obtain⟨s,hs⟩:∃ s,c.srcs[i]=s:=⟨_,rfl⟩;rw[hs,hp];obtain⟨R,HR⟩:∃ R:Np × Int × Sr,Hid (iF s raw now nonce=R):=⟨_,aA rfl⟩;dsimp only at HEN HSM |-;rw[HR.out];unfold iF at HR;have HPT:=aA (h.ptr hi);have hsr:=h.src i hi hic;rw[hp] at HPT;rw[hp,hs] at hsr;have HSR:=aA hsr;have hl:=h.cl;unfold mW at hl;have hii:(i:Int)<(P.ps.length:Int):=by omega
 have hn0:¬ (i:Int)<0:=by omega
 have HPL:=aA hp;clear hp hs hce h HSM hsr;obtain⟨wo,rfl⟩:∃ wo:World,wo=w:=⟨_,rfl⟩;have m:=iX hl;have k:=m.zK;clear hl;go_enter Tryz.func146,Tryz.ntmps146
 go_wp2_with ((with_reducible first|refine cU ?_|refine cM (HO.out _) ?_|refine wU ?_);clear k m;intro w m k)
 refine (HEN.out _ m.zO).mono ?_;rintro e w2 ⟨rfl,hcl,ho2⟩;have hb2:w2.heap[wo.heap.size]? = some (.cells #[.int .i64 0,.int .i64 0,.int .i64 0,.int .i64 0,.int .i64 0,.int .i64 0,.int .u32 0,.int .u32 0,.int .u32 0,.int .u64 0,.int .u64 0,.int .u64 0,.int .u64 0] 185 (0,0)):=ho2.got (gB (w:=w)) (by simp;omega);have O2:=aA ((m.zO.weak (S':=[P.bc]) (by simp)).trans ho2 (by simp));clear k m HEN ho2;obtain⟨wq,rfl⟩:∃ wq:World,wq=w2:=⟨_,rfl⟩;have hsr:=HSR.out.kept O2.out (by simp;omega) (by simp;omega) (by simp;omega);have hsb:=hsr.b;have HCL:=aA hcl;unfold mW at hcl;unfold yK at hsb;have HX:=aA (fun w' (o:Oy [] wq w')=>And.intro (Nat.lt_of_lt_of_le HPT.out.1 (O2.out.trans o (by simp)).size) (((O2.out.trans o (by simp)).cell HPT.out.1 (by simp;omega)).trans HPT.out.2));have HB2:=aA hb2;have HSB:=aA hsb;have HF:=aA hsr.f;have HA:=aA (fun w' (o:Oy [] wq w')=>pASend (hsr.a.kept o (by simp)) now nonce);have HSH:=aA (fun w'=>pShift s.rc w');generalize l9 s.sa now nonce=asd at HA HR;obtain⟨⟨p1,p2,p3,p4,p5,p6,p7,p8,p9,p10,p11,p12,p13⟩,ae,as2⟩:=asd;generalize oM s.rc=rc2 at HSH HR;obtain⟨r1,r2,r3,r4,r5⟩:=rc2;simp only[iR,JY] at HA HSH;dsimp only at HR;have m:Mm wq [] wq _:=⟨((Mem.start wq []).ext false hcl (by simp) (by simp)).ext false hsb (by simp;omega) (by simp)⟩;have k:=m.zK;have c:=HX.out wq (aR _ _);clear hcl hsb hsr hb2;go_wp2_with ((with_reducible first|refine cU ?_|refine wU ?_);clear k m c;intro w m k;have c:=HX.out w m.zO)
 refine (HA.out _ m.zO).mono ?_;rintro e w3 ⟨rfl,hA3,ho3⟩;have ho3:=m.zO.weak (S':=[pa]) (by simp) |>.trans ho3 (by simp)
 have hb3:=ho3.got HB2.out (by simp;omega);have hsb3:=ho3.got HSB.out (by simp;omega);have HCL3:=aA (show mW w3 P c1 from ho3.got HCL.out (by simp;omega));have HF3:=aA (HF.out.kept ho3 (by simp;omega));have O3:=aA ((O2.out.weak (S':=[P.bc,pb,pa]) (by simp)).trans ho3 (by simp));clear k m c ho3 HA;obtain⟨wp,rfl⟩:∃ wp:World,wp=w3:=⟨_,rfl⟩
 have HFIN:=aA (fun w' s' (o:Oy [wo.heap.size,pb] wp w') (hb:yK w' pb pa pf s') (e1:s'.sa=as2) (e2:s'.fl=s.fl)=>show (mW w' P c1/\tJ w' (pb,pa,pf) s')/\Oy [P.bc,pb,pa] wo w' from
  ⟨⟨o.got HCL3.out (by simp;omega),hb,by rw[e1];exact hA3.kept o (by simp;omega),by rw[e2];exact HF3.out.kept o (by simp;omega)⟩,O3.out.trans o (by simp)⟩)
 have m:Mm wp [wo.heap.size,pb] wp _:=⟨((Mem.start wp [wo.heap.size,pb]).ext true hb3 (by simp) (by simp)).ext true hsb3 (by simp;omega) (by simp)⟩;have k:=m.zK;clear hb3 hsb3;by_cases hne:ae=0
 focus
  subst hne;rw[if_pos rfl] at HR
 rotate_left 1
 focus
  rw[if_neg hne] at HR;have q1:(ae != 0)=true:=by simpa using hne
 all_goals
  obtain rfl:=HR.out;clear HR;go_wp2_with (first|((with_reducible first|refine cU ?_|refine cM (HSH.out _) ?_|refine wU ?_);clear k m;intro w m k)|((with_reducible refine lE (fun w o g k K hK=>⟨rfl,?_⟩));simp[results,Tryz.results146,go_sem,k];refine hK _ ?_;exact⟨rfl,HFIN.out w _ o (Has.h w g) rfl rfl⟩))
end
section
open Go.RowKit
theorem Mm.box0 {w0 w:World} {S:List Nat} {n:Nat} {vs:List Value} {t:TypeId} {L:List gG} (m:Mm w0 S w (⟨n,vs,t,true⟩::L)) (hS:S=[]):∃ b,b=n/\w.heap[b]? = some (.cells vs.toArray t (0,0))/\w0.heap.size<=b/\∀ q∈L,b≠q.b:=
 ⟨n,rfl,m.out.got.1,(m.out.own _ (List.mem_cons_self ..) rfl).resolve_left (by rw[hS];simp),(pairwise_cons.1 m.out.nd).1⟩
theorem Mm.box1 {w0 w:World} {S:List Nat} {n:Nat} {vs:List Value} {t:TypeId} {p:gG} {L:List gG} (m:Mm w0 S w (p::⟨n,vs,t,true⟩::L)) (hS:S=[]):∃ b,b=n/\w.heap[b]? = some (.cells vs.toArray t (0,0))/\w0.heap.size<=b/\∀ q∈L,b≠q.b:=
 ⟨n,rfl,m.out.got.2.1,(m.out.own ⟨n,vs,t,true⟩ (by simp) rfl).resolve_left (by rw[hS];simp),(pairwise_cons.1 (pairwise_cons.1 m.out.nd).2).1⟩
theorem Mm.box2 {w0 w:World} {S:List Nat} {n:Nat} {vs:List Value} {t:TypeId} {p q:gG} {L:List gG} (m:Mm w0 S w (p::q::⟨n,vs,t,true⟩::L)) (hS:S=[]):∃ b,b=n/\w.heap[b]? = some (.cells vs.toArray t (0,0))/\w0.heap.size<=b/\∀ q∈L,b≠q.b:=
 ⟨n,rfl,m.out.got.2.2.1,(m.out.own ⟨n,vs,t,true⟩ (by simp) rfl).resolve_left (by rw[hS];simp),(pairwise_cons.1 (pairwise_cons.1 (pairwise_cons.1 m.out.nd).2).2).1⟩
theorem lN {P:Program} {w0 w:World} {S:List Nat} {L:List gG} {fn:Func} {a:Act} {R:Ending->World->Prop} [h:Mm w0 S w L] (hr:fn.results=#[]) (hd:a.defers=[]) (hR:∀ w',Oy S w0 w'->Got w' L->R (.returned (.tuple #[])) w'):bodyPost P fn R .normal a w:=
 Go.Great.bodyPost_end0 hr hd (hR w h.out.only h.out.got)
def mQ (s:Sr) (i:Int) (p:Np) (q:Qd) (prec tol:Int):Sr:=
 if (sof q prec tol).2=0 then (if (vU p (sof q prec tol).1 i).2=0 then { s with fl:=(IY s.fl (sof q prec tol).1).1,rt:=(vU p (sof q prec tol).1 i).1,hdr:=p,hr:=true } else { s with fl:=(IY s.fl (sof q prec tol).1).1 }) else s
set_option synthInstance.maxSize 2000 in
set_option synthInstance.maxHeartbeats 400000 in
theorem YQ {w:World} {bc pb pa pf:Nat} {s:Sr} {tol prec:Int} (ht:w.cell? ⟨bc,1,none⟩=some (.int .i64 tol)) (ht2:w.cell? ⟨bc,2,none⟩=some (.int .i64 prec)) (hlt:bc<w.heap.size) (hB:yK w pb pa pf s) (hF:jW w pf s.fl) (hpf:pb≠pf/\pf<w.heap.size) (i:Int) (hi0:0<=i) (hi1:i<=100) (p:Np) (hp:fA p) (q:Qd) :
  Calls Tryz.prog 236 #[.pointer (some ⟨bc,0,none⟩),.pointer (some ⟨pb,0,none⟩),.int .i64 i,iR p,qdV q] w fun e w'=>e=.returned (.tuple #[])/\(yK w' pb pa pf (mQ s (i+1) p q prec tol)/\jW w' pf (mQ s (i+1) p q prec tol).fl)/\Oy [pb,pf] w w':=by
 have HF:=aA hF;have HQ:=aA hp;have hsb:=hB;have lpb:=aF hB;have HOF:=aA (fun w'=>pSOf q prec tol w');obtain⟨res,HR⟩:∃ r,Hid (mQ s (i+1) p q prec tol=r):=⟨_,aA rfl⟩;rw[HR.out];unfold mQ at HR;generalize sof q prec tol=so at HOF HR;obtain⟨⟨sm1,sm2,sm3,sm4⟩,oe⟩:=so;have HJN:=aA (fun w'=>pJoin p ⟨sm1,sm2,sm3,sm4⟩ (i+1) hp w');obtain⟨q1,q2,q3,q4,q5,q6,q7,q8,q9,q10,q11,q12,q13⟩:=p;obtain⟨y1,y2,y3,y4⟩:=q;simp only[wV,qdV,iR,JK] at HOF HJN |-;dsimp only at HR HOF;unfold yK at hsb;obtain⟨lpf1,lpf2⟩:=hpf;clear hB hp hF;obtain⟨wo,rfl⟩:∃ wo:World,wo=w:=⟨_,rfl⟩;have HX:=aA (fun w' (o:Oy [] wo w')=>And.intro (Nat.lt_of_lt_of_le hlt o.size) (And.intro ((o.cell hlt (by simp)).trans ht) ((o.cell hlt (by simp)).trans ht2)));have m:=iX hsb;have k:=m.zK;have c:=HX.out wo (aR _ _);have HSB:=aA hsb;clear hsb ht ht2 hlt;go_enter Tryz.func236,Tryz.ntmps236
 go_upto_region 1 with (fail)
 refine wU ?_;clear k m c;intro w m k;have c:=HX.out w m.zO;obtain⟨b1,e1,g1,f1,n1⟩:=m.box0 rfl;obtain⟨b0,e0,g0,f0,n0⟩:=m.box1 rfl;have n10:b1≠b0:=by omega
 rw[<-e1,<-e0] at m k |-;clear n1 n0 e0 e1;by_cases hoe:oe=0
 rotate_left
 focus
  rw[if_neg hoe] at HR;have k5:(oe != 0)=true:=by simpa using hoe
  obtain rfl:=HR.out;go_wp2_with (first|((with_reducible first|refine cU ?_|refine wU ?_);clear k m c;intro w m k;have c:=HX.out w m.zO)|((with_reducible refine rA (id:=1) [0,1,2,3,4,5,6,7,8,9,10,11,12,13] [14] 15 [16,17] (by kernel_rfl) (by kernel_rfl) ?_);simp only[bV];(repeat (first|(refine aQ (fun K hK=>?_);go_simp;refine hK _ ?_;clear hK K)|(refine cG (by kernel_rfl) ⟨_,_,_,?_,fun w' o=>HOF.out w',?_⟩;(focus (intro w;go_simp;done)))));refine aS ?_;(repeat (refine aJ (fun K hK=>?_);go_simp;refine hK _ ?_;clear hK K));refine aK ?_;clear k m;intro w o m k;refine aD rfl ?_;go_wp2;simp only[bA];refine⟨o.alloc _,tW ?_⟩;clear o;clear k m c;intro w m k;have c:=HX.out w m.zO;unfold aV;refine aD rfl ?_;go_wp2;simp only[bA];refine tW ?_;clear k m c;intro w m k;have c:=HX.out w m.zO;unfold aV;refine aD rfl ?_;go_wp2;simp only[bA];refine tW ?_;clear k m c;intro w m k;have c:=HX.out w m.zO;unfold aV)|((with_reducible refine lE (fun w o g k K hK=>⟨rfl,?_⟩));simp[results,Tryz.results236,go_sem];refine hK _ ?_;exact⟨rfl,⟨o.got HSB.out (by simp),HF.out.kept o (by simp)⟩,o.weak (by simp)⟩)|((with_reducible refine lN ?_ ?_ (fun w o g=>?_));(. rfl);(. rfl);exact⟨rfl,⟨o.got HSB.out (by simp),HF.out.kept o (by simp)⟩,o.weak (by simp)⟩))
 subst hoe;rw[if_pos rfl] at HR;go_wp2_with (first|((with_reducible first|refine cU ?_|refine wU ?_);clear k m c;intro w m k;have c:=HX.out w m.zO)|((with_reducible refine rA (id:=1) [0,1,2,3,4,5,6,7,8,9,10,11,12,13] [14] 15 [16,17] (by kernel_rfl) (by kernel_rfl) ?_);simp only[bV];(repeat (first|(refine aQ (fun K hK=>?_);go_simp;refine hK _ ?_;clear hK K)|(refine cG (by kernel_rfl) ⟨_,_,_,?_,fun w' o=>HOF.out w',?_⟩;(focus (intro w;go_simp;done)))));refine aS ?_;(repeat (refine aJ (fun K hK=>?_);go_simp;refine hK _ ?_;clear hK K));refine aK ?_;clear k m;intro w o m k;refine aD rfl ?_;go_wp2;simp only[bA];refine⟨o.alloc _,tW ?_⟩;clear o;clear k m c;intro w m k;have c:=HX.out w m.zO;unfold aV;refine aD rfl ?_;go_wp2;simp only[bA];refine tW ?_;clear k m c;intro w m k;have c:=HX.out w m.zO;unfold aV;refine aD rfl ?_;go_wp2;simp only[bA];refine tW ?_;clear k m c;intro w m k;have c:=HX.out w m.zO;unfold aV)|((with_reducible refine iY (id:=3) [0,1,2,3,4] [5] ?_);simp only[bV];(repeat' (first|go_big_quiet_step (fail)|(refine wpQuiet_step (fun K hK=>?_);go_simp;(first|(refine hK _ ?_;clear hK K)|(split<;>(refine hK _ ?_;clear hK K))))));all_goals (refine wpQuiet_nil ?_;clear k m c;intro w m k;have c:=HX.out w m.zO)))
 obtain⟨b8,e8,g8,f8,n8⟩:=m.box0 rfl;rw[<-e8];have g0w:=gB (w:=w) (b:=b0);have hsw:=gB (w:=w) (b:=pb);have n80:b8≠b0:=n8 ⟨b0,_,_,_⟩ (.tail _ (.head _));have HAD:=aA (pFAdd (HF.out.kept m.zO (by simp)) ⟨sm1,sm2,sm3,sm4⟩);generalize IY s.fl ⟨sm1,sm2,sm3,sm4⟩=fa at HAD HR;obtain⟨fl2,fe⟩:=fa;simp only[wV] at HAD;dsimp only at HAD HR;refine HAD.out.mono ?_;rintro e w6 ⟨rfl,hf6,ho6⟩;have O6:=aA ((m.zO.weak (S':=[pb,pf]) (by simp)).trans ho6 (by simp));have G8:=aA (ho6.got g8 (by simp;omega));have G0:=aA (ho6.got g0w (by simp;omega));have HS6:=aA (ho6.got hsw (by simp;omega));have HF6:=aA hf6;clear m k c g8 g0w hsw hf6 ho6 HAD e8 n8 HOF HX;generalize vU ⟨q1,q2,q3,q4,q5,q6,q7,q8,q9,q10,q11,q12,q13⟩ ⟨sm1,sm2,sm3,sm4⟩ (i+1)=oj at HJN HR;obtain⟨⟨t1,t2,t3,t4⟩,je⟩:=oj;dsimp only at HR HJN;have cv1:wrap .i64 (i+1)=i+1:=by rw[IntKind.wrap_i64];omega
 have cv2:wrap .u32 (i+1)=i+1:=by rw[IntKind.wrap_u32];omega
 obtain⟨wy,rfl⟩:∃ wy:World,wy=w6:=⟨_,rfl⟩;have m:Mm wy [pb] wy _:=⟨(((Mem.start wy [pb]).ext false G0.out (by simp) (by simp)).ext false G8.out (by simp;omega) (by simp)).ext true HS6.out (by simp;omega) (by simp)⟩;have k:=m.zK;by_cases hje:je=0
 rotate_left
 focus
  rw[if_neg hje] at HR;have k6:(je != 0)=true:=by simpa using hje
  obtain rfl:=HR.out;go_wp2_with (first|((with_reducible first|refine cU ?_|refine cM (HJN.out _) ?_|refine wU ?_);clear k m;intro w m k)|((with_reducible refine lE (fun w o g k K hK=>⟨rfl,?_⟩));simp[results,Tryz.results236,go_sem];refine hK _ ?_;exact⟨rfl,⟨Has.h w g,HF6.out.kept o (by simp;omega)⟩,O6.out.trans o (by simp)⟩)|((with_reducible refine lN ?_ ?_ (fun w o g=>?_));(. rfl);(. rfl);exact⟨rfl,⟨Has.h w g,HF6.out.kept o (by simp;omega)⟩,O6.out.trans o (by simp)⟩))
 subst hje;rw[if_pos rfl] at HR;obtain rfl:=HR.out;have ob:bits .or .i64 (UO s.hr s.hp) 1=UO true s.hp:=by cases s.hr<;>cases s.hp<;>decide
 clear HR;go_wp2_with ((with_reducible first|refine cU ?_|refine cM (HJN.out _) ?_|refine wU ?_);clear k m;intro w m k)
 have n9b:=(pairwise_cons.1 m.out.nd).1 _ (List.mem_cons_self ..);dsimp only at n9b;have n0b:¬ b0=pb:=by omega
 have GS:=aA (gB (w:=w) (b:=pb));have OW:=aA m.zO;obtain⟨wx,rfl⟩:∃ wx:World,wx=w:=⟨_,rfl⟩;refine dG [0,1,2,3] [] (OnlyC [pb] wx) (by kernel_rfl) (by kernel_rfl) ?_;simp only[bV];iterate 4 (refine aJ (fun K hK=>?_);go_simp;refine hK _ ?_;clear hK K)
 refine aK ?_;clear m k n9b;refine Rest.by (X:=Unit) (fun _ a=>((((a.put (some 51) (.pointer (some ⟨pb,0,none⟩))).put (some 52) (.pointer (some ⟨pb,22,none⟩))).put (some 53) (.pointer (some ⟨pb,0,none⟩))).put (some 54) (.pointer (some ⟨pb,9,none⟩)))) (fun _ w'=>w'.heap[pb]? = some (.cells #[.pointer (some ⟨pa,0,none⟩),.pointer (some ⟨pf,0,none⟩),.int .i64 (UO s.hr s.hp),.int .i64 s.rc.bits,.int .i64 s.rc.poll,.int .i64 s.rc.mn,.int .i64 s.rc.mx,.int .i64 s.rc.cnt,.int .i64 s.sent,.int .i64 q1,.int .i64 q2,.int .i64 q3,.int .i64 q4,.int .i64 q5,.int .i64 q6,.int .u32 q7,.int .u32 q8,.int .u32 q9,.int .u64 q10,.int .u64 q11,.int .u64 q12,.int .u64 q13,.int .i64 t1,.int .i64 t2,.int .i64 t3,.int .u32 t4,.int .i64 s.prf.lo,.int .i64 s.prf.hi,.int .i64 s.pat] 187 (0,0))/\Oy [pb] wx w') ?_ ?_
 rotate_left
 focus
  have m:=kV GS.out;have k:=m.zK;refine aL [4] (by kernel_rfl) (by simp) (.inr (bC gO)) ?_;simp only[eD];refine aD rfl ?_;go_wp2;simp only[bA];refine aL [5] (by kernel_rfl) (by simp) (.inr (bC gO)) ?_;simp only[eD];refine aD rfl ?_;go_wp2;simp only[bA];refine aL [6] (by kernel_rfl) (by simp) (.inr (bC gO)) ?_;simp only[eD];refine aD rfl ?_;go_wp2;simp only[bA];refine aL [7] (by kernel_rfl) (by simp) (.inr (bC gO)) ?_;simp only[eD];refine aD rfl ?_;go_wp2;simp only[bA];refine aL [8] (by kernel_rfl) (by simp) (.inr (bC gO)) ?_;simp only[eD];refine aD rfl ?_;go_wp2;simp only[bA];refine aL [9] (by kernel_rfl) (by simp) (.inr (bC gO)) ?_;simp only[eD];refine aD rfl ?_;go_wp2;simp only[bA];exact dX (by kernel_rfl) (.inr (bC gO)) ⟨(),by simp[Act.put],gB,gO⟩
 rintro⟨⟩ w7 ⟨hb7,ho7⟩;simp only[Act.put,List.setIfInBounds_toArray,set_cons_succ,set_cons_zero];have O7:=aA ((O6.out.trans OW.out (by simp)).trans ho7 (by simp));have HF7:=aA ((HF6.out.kept OW.out (by simp;omega)).kept ho7 (by simp;omega));have m:=kV hb7;have k:=m.zK;clear hb7 ho7 GS;go_wp2_with (first|((with_reducible first|refine cU ?_|refine wU ?_);clear k m;intro w m k)|((with_reducible refine lE (fun w o g k K hK=>⟨rfl,?_⟩));simp[results,Tryz.results236,go_sem];refine hK _ ?_;exact⟨rfl,⟨Has.h w g,HF7.out.kept o (by simp;omega)⟩,O7.out.trans o (by simp)⟩)|((with_reducible refine lN ?_ ?_ (fun w o g=>?_));(. rfl);(. rfl);exact⟨rfl,⟨Has.h w g,HF7.out.kept o (by simp;omega)⟩,O7.out.trans o (by simp)⟩))
end
section
open Go.RowKit
def iV (s:Sr) (iv:Iv) (raw tol:Int):Sr:=
 if (qL iv (raw-s.sent) tol).2=0 then (if s.hp=true/\F8 (lZ s.prf s.pat raw tol)<F8 (tY (qL iv (raw-s.sent) tol).1) then s else { s with prf:=tY (qL iv (raw-s.sent) tol).1,pat:=raw,hp:=true }) else s
theorem pProve {w:World} {bc pb pa pf:Nat} {s:Sr} {tol:Int} (ht:w.cell? ⟨bc,1,none⟩=some (.int .i64 tol)) (hlt:bc<w.heap.size) (hB:yK w pb pa pf s) (iv:Iv) (raw:Int) (h0: -9223372036854775808<=raw-s.sent) (h1:raw-s.sent<=9223372036854775807) (hp0: -9223372036854775808<=raw-s.pat) (hp1:raw-s.pat<=9223372036854775807) (hcb:bc≠pb) :
  Calls Tryz.prog 235 #[.pointer (some ⟨bc,0,none⟩),.pointer (some ⟨pb,0,none⟩),dV iv,.int .i64 raw] w fun e w'=>e=.returned (.tuple #[])/\yK w' pb pa pf (iV s iv raw tol)/\Oy [pb] w w':=by
 obtain⟨d,hd⟩:∃ d,raw-s.sent=d:=⟨_,rfl⟩;have HSM:Hid (iV s iv raw tol=if (qL iv (raw-s.sent) tol).2=0 then (if s.hp=true/\F8 (lZ s.prf s.pat raw tol)<F8 (tY (qL iv (raw-s.sent) tol).1) then s else { s with prf:=tY (qL iv (raw-s.sent) tol).1,pat:=raw,hp:=true }) else s):=aA rfl;rw[hd] at HSM;have a1:wrap .i64 (raw-s.sent)=d:=by rw[IntKind.wrap_i64];omega
 generalize iV s iv raw tol=res at HSM |-;have HTR:=aA (fun w'=>pTrip iv d tol w');generalize qL iv d tol=tr at HTR HSM;obtain⟨x,te⟩:=tr;dsimp only at HTR HSM;have HCL:=aA (fun w'=>pClip x w');generalize tY x=cx at HCL HSM;obtain⟨wo,rfl⟩:∃ wo:World,wo=w:=⟨_,rfl⟩;have HX:=aA (fun (w':World) (o:Oy [pb] wo w')=>And.intro ((o.cell hlt (by simpa using hcb)).trans ht) (Nat.lt_of_lt_of_le hlt o.size));have HAG:=aA (fun (w':World) (o:Oy [pb] wo w')=>ZF (HX.out w' o).1 (HX.out w' o).2 s.prf s.pat raw hp0 hp1);generalize lZ s.prf s.pat raw tol=ag at HAG HSM;have HWA:=aA (fun w'=>X8 ag w');generalize F8 ag=wa at HWA HSM;have HWC:=aA (fun w'=>X8 cx w');generalize F8 cx=wc at HWC HSM;obtain⟨v1,v2⟩:=iv;obtain⟨e1,e2⟩:=x;obtain⟨g1,g2⟩:=cx;obtain⟨o1,o2⟩:=ag;unfold dV at HTR HCL HAG HWA HWC |-;dsimp only at HTR HCL HAG HWA HWC HSM |-;have hB0:=True.intro;unfold yK at hB |-;clear ht hlt hd h0 h1 hp0 hp1;have ob:bits .or .i64 (UO s.hr s.hp) 2=UO s.hr true:=by cases s.hr<;>cases s.hp<;>decide
 by_cases hz:te=0
 rotate_left
 focus
  have q1:(te != 0)=true:=by simpa using hz
  obtain rfl:s=res:=by have:=HSM.out;simpa [hz] using this.symm
  clear HSM hz
 rotate_left
 focus
  subst hz
  cases hhp:s.hp
  focus
   have oa:bits .and .i64 (UO s.hr s.hp) 2=0:=by rw[hhp];cases s.hr<;>decide
   obtain rfl:res={ s with prf:=⟨g1,g2⟩,pat:=raw,hp:=true }:=by have:=HSM.out;simpa [hhp] using this
   clear HSM hhp;dsimp only
  rotate_left
  focus
   have oa:bits .and .i64 (UO s.hr s.hp) 2=2:=by rw[hhp];cases s.hr<;>decide
   by_cases hw:wa<wc
   focus
    have d1:decide (wa<wc)=true:=eY hw;obtain rfl:s=res:=by have:=HSM.out;simpa [hhp,hw] using this.symm
    clear HSM hhp hw
   rotate_left
   focus
    have d1:decide (wa<wc)=false:=dL hw;obtain rfl:res={ s with prf:=⟨g1,g2⟩,pat:=raw,hp:=true }:=by have:=HSM.out;simpa [hhp,hw] using this
    clear HSM hhp hw;dsimp only
   rotate_left
  rotate_left 2
 rotate_left 3
 all_goals
  clear hB0;have m:=kV hB;have k:=m.zK;have c:=HX.out wo (aR _ wo);go_enter Tryz.func235,Tryz.ntmps235
  go_wp2_with (first|((with_reducible first|refine cM (HCL.out _) ?_|refine wU ?_);clear k m c;intro w m k;have c:=HX.out w m.zO)|((with_reducible refine rA (id:=1) [0,1,2,3,4,5,6,7,8,9,10,11,12,13,14] [15] 16 [17,18] (by kernel_rfl) (by kernel_rfl) ?_);simp only[bV];(repeat (first|(refine aQ (fun K hK=>?_);go_simp;refine hK _ ?_;clear hK K)|(refine cG (by kernel_rfl) ⟨_,_,_,?_,fun w' o=>HTR.out w',?_⟩;(focus (intro w;go_simp;done)))));refine aS ?_;(repeat (refine aJ (fun K hK=>?_);go_simp;refine hK _ ?_;clear hK K));refine aK ?_;clear k m;intro w o m k;refine aD rfl ?_;go_wp2;simp only[bA];refine⟨o.alloc _,tW ?_⟩;clear o;clear k m c;intro w m k;have c:=HX.out w m.zO;unfold aV;refine aD rfl ?_;go_wp2;simp only[bA];refine tW ?_;clear k m c;intro w m k;have c:=HX.out w m.zO;unfold aV;refine aD rfl ?_;go_wp2;simp only[bA];refine tW ?_;clear k m c;intro w m k;have c:=HX.out w m.zO;unfold aV)|((with_reducible refine rA (id:=5) [0,1,2,3,4,5,6,7,8,9,10] [] 11 [12] (by kernel_rfl) (by kernel_rfl) ?_);simp only[bV];(repeat (first|(refine aQ (fun K hK=>?_);go_simp;refine hK _ ?_;clear hK K)|(refine cG (by kernel_rfl) ⟨_,_,_,?_,fun w' o=>HAG.out w' (m.zO.aB o),?_⟩;(focus (intro w;go_simp;done)))));refine aS ?_;(repeat (refine aJ (fun K hK=>?_);go_simp;refine hK _ ?_;clear hK K));refine aK ?_;clear k m;intro w o m k;refine aD rfl ?_;go_wp2;simp only[bA];refine⟨o.alloc _,tW ?_⟩;clear o;clear k m c;intro w m k;have c:=HX.out w m.zO;unfold aV;refine aD rfl ?_;go_wp2;simp only[bA];refine tW ?_;clear k m c;intro w m k;have c:=HX.out w m.zO;unfold aV)|((with_reducible refine iY (id:=6) [0,1,2,3,4] [] ?_);simp only[bV];(repeat' (first|go_big_quiet_step (with_reducible first|exact gX (HWA.out _)|exact gX (HWC.out _))|(refine wpQuiet_step (fun K hK=>?_);go_simp;(first|(refine hK _ ?_;clear hK K)|(split<;>(refine hK _ ?_;clear hK K))))));all_goals (refine wpQuiet_nil ?_;clear k m c;intro w m k;have c:=HX.out w m.zO))|((with_reducible refine lE (fun w o g k K hK=>⟨rfl,?_⟩));simp[results,Tryz.results235,go_sem];refine hK _ ?_;exact⟨rfl,Has.h w g,o⟩)|((with_reducible refine lN ?_ ?_ (fun w o g=>?_));(. rfl);(. rfl);exact⟨rfl,Has.h w g,o⟩))
end
section
open Go.RowKit
theorem oZ {α β:Type} {f:α->List β}:∀ {l:List α} {i j:Nat} (hi:i<l.length) (hj:j<l.length),(l.flatMap f).Nodup->i≠j->∀ x∈f l[i],x ∉ f l[j]
 | [],i,_,hi,_,_,_,_,_=>absurd hi (by simp)
 | a::l,0,0,_,_,_,hne,_,_=>absurd rfl hne
 | a::l,0,j+1,_,hj,h,_,x,hx=>fun hm=>by
  rw[flatMap_cons,nodup_append] at h;have hj':j<l.length:=by simpa using hj
  exact h.2.2 x (by simpa using hx) x (mem_flatMap.2 ⟨l[j],getElem_mem hj',by simpa using hm⟩) rfl
 | a::l,i+1,0,hi,_,h,_,x,hx=>fun hm=>by
  rw[flatMap_cons,nodup_append] at h;have hi':i<l.length:=by simpa using hi
  exact h.2.2 x (by simpa using hm) x (mem_flatMap.2 ⟨l[i],getElem_mem hi',by simpa using hx⟩) rfl
 | a::l,i+1,j+1,hi,hj,h,hne,x,hx=>by
  rw[flatMap_cons,nodup_append] at h;have:=oZ (f:=f) (l:=l) (i:=i) (j:=j) (by simpa using hi) (by simpa using hj) h.2.1 (by omega) x (by simpa using hx);simpa using this
theorem bP.putS {w w':World} {P:Pl} {c:Cl} {S:List Nat} {s':Sr} (h:bP w P c) (i:Nat) (hi:i<P.ps.length) (ho:Oy S w w') (hS:∀ x∈S,x∈[P.ps[i].1,P.ps[i].2.1,P.ps[i].2.2]) (hs:tJ w' P.ps[i] s'):bP w' P { c with srcs:=c.srcs.set i s' }:=by
 have hnd:=h.nd;unfold Pl.all at hnd;simp only[nodup_cons,mem_cons,not_or] at hnd;obtain⟨⟨n1,n2,n3,n4⟩,⟨n5,n6,n7⟩,⟨n8,n9⟩,n10,n11⟩:=hnd;have key:∀ b,b ∉ (P.ps.flatMap fun p=>[p.1,p.2.1,p.2.2])->b ∉ S:=fun b hb hm=>hb (mem_flatMap.2 ⟨P.ps[i],getElem_mem hi,hS b hm⟩);refine⟨ho.got h.cl (key _ n4),ho.got h.ck (key _ n7),ho.got h.sv (key _ n9),h.row.kept ho (key _ n10),by simpa using h.len,?_,h.nd,fun b hb=>Nat.lt_of_lt_of_le (h.lt b hb) ho.size⟩;intro j hj hj';by_cases e:i=j
 ·subst e
  simpa using hs
 ·have hjc:j<c.srcs.length:=h.len ▸ hj
  have ap:∀ x∈[P.ps[j].1,P.ps[j].2.1,P.ps[j].2.2],x ∉ S:=fun x hx hm=>oZ (f:=fun p:Nat × Nat × Nat=>[p.1,p.2.1,p.2.2]) hj hi n11 (Ne.symm e) x hx (hS x hm);have:=(h.src j hj hjc).kept ho (ap _ (by simp)) (ap _ (by simp)) (ap _ (by simp));simpa [List.getElem_set_ne e] using this
end
section
open Go.RowKit
def yX (s:Sr) (a:As):Sr:={ s with sa:=a,rc:={ s.rc with bits:=bits .or .i64 s.rc.bits 1 } }
def kJ (s:Sr) (i:Int) (p:Np) (iv:Iv) (has:Bool) (raw now prec tol:Int):Hd × Sr:=
 if (jV s.sa p now).1.kind=4 then ((jV s.sa p now).1,{ s with sa:=(jV s.sa p now).2,rc:=JZ s.rc })
 else if (jV s.sa p now).1.kind=7 then
  ((jV s.sa p now).1,mQ (if has=true then iV (yX s (jV s.sa p now).2) iv raw tol else yX s (jV s.sa p now).2) (i+1) p (jV s.sa p now).1.q prec tol)
 else ((jV s.sa p now).1,{ s with sa:=(jV s.sa p now).2 })
end
end Go.Proofs.YtppjhbjmfkiejaaGreat
