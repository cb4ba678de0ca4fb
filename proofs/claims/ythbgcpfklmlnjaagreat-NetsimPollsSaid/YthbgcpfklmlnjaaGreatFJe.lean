/- Texts of one chain: D7, D8, D9. Conditions: those named in each theorem. -/
import Derived.Test.YthbgcpfklmlnjaaGreatFJd
namespace Go.Proofs.YthbgcpfklmlnjaaGreat
open List (getElem_mem map_cons map_nil mem_cons mem_flatMap nodup_cons not_mem_nil)
open Go.Lib (hid)
set_option maxRecDepth 100000
set_option maxHeartbeats 16000000
section
open Go.RowKit
def NewR (w0:World) (c:Cf) (raw time:Int) (e:Ending) (w:World):Prop:=
 ((fI raw && fI time)=false/\e=.returned (.pointer none))\/((fI raw && fI time)=true/\∃ P,e=.returned (.pointer (some ⟨P.bc,0,none⟩))/\bP w P (G9 c raw time)/\∀ b∈P.all,w0.heap.size<=b)
theorem NwS.done {w:World} {c:Cf} {raw time:Int} {bk bv bc:Nat} {wr:World} {ps:List (Nat × Nat × Nat)} {v:Value} (h:NwS w c raw time bk bv bc wr ps v) (h0:0<ps.length) (hn:ps.length=c.servers.toNat) :
  ∃ P:Pl,P.bc=bc/\bP wr P (G9 c raw time)/\∀ b∈P.all,w.heap.size<=b:=by
 obtain⟨h1,h2,h3,h4,h5,h6,h7,h8⟩:=h;rcases h4 with ⟨_,he⟩|⟨g,cap,rfl,hg,hr⟩
 ·have:=congrArg List.length he
  simp at this;subst this;simp at h0
 ·have hl:(List.map (fun x=>x.1) ps).length=ps.length:=by simp
  simp only[Value.ownBlock,Option.toList_some,List.cons_append,List.nil_append] at h6 h7;refine⟨⟨bc,bk,bv,g,cap,ps⟩,rfl,⟨?_,h2,h3,hr,?_,?_,h6,fun b hb=>(h7 b hb).2⟩,fun b hb=>(h7 b hb).1⟩
  ·unfold mI
   rw[h1,hl];rfl
  ·simp[G9,hn]
  ·intro i hi hi'
   have:(G9 c raw time).srcs[i]=o9 c:=by simp[G9]
   rw[this];exact h5 _ (getElem_mem _)
theorem pClNew (c:Cf) (raw time:Int) (hc:fG c=0) (hs:sG c.sv=0) (h1:1<=c.servers/\c.servers<=12) (h2:0<=c.tol/\c.tol<=500000) (w:World) :
  Calls Tryz.prog 34 #[QO c,.int .i64 raw,.int .i64 time] w fun e w'=>NewR w c raw time e w'/\Only [] w w':=by
 obtain⟨sr,tl,pr,kp,⟨sk,si,sm,sf,sl⟩,ra,mn,mx⟩:=c;have HCH:=hid (fun w'=>PU ⟨sr,tl,pr,kp,⟨sk,si,sm,sf,sl⟩,ra,mn,mx⟩ w');rw[hc] at HCH;have HSV:=hid (fun w'=>pSvNew ⟨sk,si,sm,sf,sl⟩ hs w');have HEV:=hid (fun w'=>GA w');have HCN:=hid (fun w'=>pCNew raw time w');have HAN2:=hid (fun w'=>(pANew w').mono (fun e w'' h=>(⟨⟨_,h.1,Nat.le_refl _,h.2.1⟩,h.2.2⟩:(∃ b,e=.returned (.pointer (some ⟨b,0,none⟩))/\w'.heap.size<=b/\tV w'' b UJ)/\Only [] w' w'')));have HFN:=hid (fun w'=>pFNew tl h2.1 h2.2 w');dsimp only at h1 h2;have HRES:Hid (∀ e w',NewR w ⟨sr,tl,pr,kp,⟨sk,si,sm,sf,sl⟩,ra,mn,mx⟩ raw time e w'↔NewR w ⟨sr,tl,pr,kp,⟨sk,si,sm,sf,sl⟩,ra,mn,mx⟩ raw time e w'):=hid (fun _ _=>Iff.rfl);unfold QO at HCH |-;unfold scV at HSV;unfold dS MS at HEV;dsimp only at HCH HSV HEV |-;obtain⟨n,rfl⟩:∃ n:Nat,sr=(n:Int):=⟨sr.toNat,by omega⟩;go_enter Tryz.func34,Tryz.ntmps34
 go_upto_region 1 with (fail)
 refine aF (G:=fun w0=>Code.wp _ _ _ _ w0) ?_;intro w1 hb1 ho1 hs1;obtain⟨b1,hbe1⟩:∃ b,w.heap.size=b:=⟨_,rfl⟩;rw[hbe1] at hb1;rw[hbe1];have HN:Hid (w.heap.size<=b1):=hid (by omega);have B1:=hid hb1;have OO:=hid ho1;clear hb1 hs1 hbe1;clear ho1;have k1:=c_12 B1.out;go_wp2_with fail
 refine (HCH.out _).mono ?_;rintro e w2 ⟨rfl,ho⟩;clear k1;replace OO:=hid (OO.out.aB ho);replace B1:=hid (ho.got B1.out (by simp));clear ho;have k1:=c_12 B1.out;go_wp2_with fail
 have HWS:=hid OO.out.size;refine (HCN.out _).mono ?_;rintro e w3 ⟨hr,ho⟩;clear k1;have HR:=hid hr;replace OO:=hid (OO.out.aB ho);replace B1:=hid (ho.got B1.out (by simp));have HO3:=hid ho;clear ho hr;have k1:=c_12 B1.out;rcases HR.out with ⟨hb,rfl⟩|⟨hb,bk,rfl,hkn,hck⟩
 ·have HB:=hid hb
  clear hb HR;go_wp2;go_ret
  exact⟨.inl ⟨HB.out,rfl⟩,OO.out⟩
 ·have HB:=hid hb;have HCK:=hid hck;have HKN:=hid hkn
  clear hb HR hck hkn;have hbk:=aD HCK.out;go_upto_region 6 with (fail)
  refine dA [0,1,2,3,5,7,8] [] (OnlyC ([]:List Nat) w3) (by kernel_rfl) (by kernel_rfl) ?_;simp only[pick,map_cons,map_nil,List.getD_cons_succ,List.getD_cons_zero];iterate 7 (refine aJ (fun K hK=>?_);go_simp;refine hK _ ?_;clear hK K)
  refine aN ?_;refine Rest.by (X:=Nat × Nat) (fun y a=>((((a.put (some 21) (.pointer (some ⟨y.1,0,none⟩))).put (some 23) (.agg #[.int .i64 (-4503599627370496),.int .i64 4503599627370496])).put (some 26) (.agg #[.int .i64 (n:Int),.int .i64 tl,.int .i64 pr,.int .i64 kp,.int .i64 sk,.int .i64 si,.int .i64 sm,.int .i64 sf,.int .i64 sl,.int .i64 ra,.int .i64 mn,.int .i64 mx,.pointer (some ⟨bk,0,none⟩),.pointer (some ⟨y.1,0,none⟩),.slice none 0 0,.int .i64 raw,.int .i64 (-4503599627370496),.int .i64 4503599627370496,.int .i64 raw,.int .i64 16,.int .i64 0,.int .i64 0,.int .u32 0,.bool false,.int .i64 0])).put (some 27) (.pointer (some ⟨y.2,0,none⟩))).put (some 8) (.pointer (some ⟨y.2,0,none⟩))) (fun y w'=>lW w' y.1 ⟨⟨sk,si,sm,sf,sl⟩,0,0,0⟩/\w'.heap[y.2]? = some (.cells #[.int .i64 (n:Int),.int .i64 tl,.int .i64 pr,.int .i64 kp,.int .i64 sk,.int .i64 si,.int .i64 sm,.int .i64 sf,.int .i64 sl,.int .i64 ra,.int .i64 mn,.int .i64 mx,.pointer (some ⟨bk,0,none⟩),.pointer (some ⟨y.1,0,none⟩),.slice none 0 0,.int .i64 raw,.int .i64 (-4503599627370496),.int .i64 4503599627370496,.int .i64 raw,.int .i64 16,.int .i64 0,.int .i64 0,.int .u32 0,.bool false,.int .i64 0] 134 (0,0))/\w3.heap.size<=y.1/\w3.heap.size<=y.2/\y.1≠y.2/\Only [] w3 w') ?_ ?_
  rotate_left
  ·have O0:=hid (Only.refl [] w3).drew
   refine aK [4] (by kernel_rfl) (by simp) (.inr (aZ O0.out)) ?_;simp only[mem_cons,not_mem_nil,or_false,forall_eq];refine aC rfl ?_;go_wp2_with fail
   refine (HSV.out _).mono ?_;rintro e x1 ⟨⟨bv,rfl,hvn,hsv⟩,ho⟩;have HVN:Hid (w3.heap.size<=bv):=hid (Nat.le_trans O0.out.size hvn);replace O0:=hid (O0.out.aB ho);have HVA:=hid hsv;clear ho hvn hsv;go_wp2;simp only[bG];refine aK [6] (by kernel_rfl) (by simp) (.inr (aZ O0.out)) ?_;simp only[mem_cons,not_mem_nil,or_false,forall_eq];refine aC rfl ?_;go_wp2_with fail
   refine (HEV.out _).mono ?_;rintro e x2 ⟨rfl,ho⟩;replace O0:=hid (O0.out.aB ho);replace HVA:Hid (lW x2 bv ⟨⟨sk,si,sm,sf,sl⟩,0,0,0⟩):=hid (ho.got HVA.out (by simp));clear ho;go_wp2;simp only[bG];refine aK [9] (by kernel_rfl) (by simp) (.inr (aZ O0.out)) ?_;simp only[mem_cons,not_mem_nil,or_false,forall_eq];refine aC rfl ?_;go_wp2;simp only[bG];refine aK [10] (by kernel_rfl) (by simp) (.inr (aZ O0.out)) ?_;simp only[mem_cons,not_mem_nil,or_false,forall_eq];refine aC rfl ?_;go_wp2;simp only[bG];refine aF (G:=fun w0=>eU _ _ _ _ _ _ _ _ _ w0) ?_;intro x3 hb0 ho0 _;obtain⟨bc,hbc⟩:∃ b,x2.heap.size=b:=⟨_,rfl⟩;rw[hbc] at hb0;rw[hbc];have HBC:Hid (w3.heap.size<=bc):=hid (by rw[<-hbc];exact O0.out.size);have HNE:Hid (bv≠bc):=hid (by have:=aD HVA.out;omega);replace HVA:Hid (lW x3 bv ⟨⟨sk,si,sm,sf,sl⟩,0,0,0⟩):=hid (ho0.got HVA.out (by simp));replace O0:=hid (O0.out.aB ho0);have HB0:=hid hb0;clear hb0 ho0 hbc;refine aK [11] (by kernel_rfl) (by simp) (.inr (aZ O0.out)) ?_;simp only[mem_cons,not_mem_nil,or_false,forall_eq];refine aC rfl ?_;go_wp2;simp only[bG];exact dV (by kernel_rfl) (.inr (aZ O0.out)) ⟨(bv,bc),by simp[Act.put],HVA.out,HB0.out,HVN.out,HBC.out,HNE.out,O0.out⟩
  rintro⟨bv,bc⟩ w4 ⟨hsv,hcl,hvn,hcn,hne,ho⟩;dsimp only at hsv hcl hvn hcn hne;simp only[Act.put,List.setIfInBounds_toArray,List.set_cons_succ,List.set_cons_zero]
  have HNW:Hid (NwS w ⟨(n:Int),tl,pr,kp,⟨sk,si,sm,sf,sl⟩,ra,mn,mx⟩ raw time bk bv bc w4 [] (.slice none 0 0)):=hid ⟨hcl,ho.got HCK.out (by simp),hsv,dZ _ _,fun p hp=>by simp at hp,by
   simp[RL,Value.ownBlock];omega,fun b hb=>by
   simp only[Value.ownBlock,Option.toList_none,RL,List.flatMap_nil,List.append_nil,mem_cons,not_mem_nil,or_false] at hb;have:=ho.size;have:=aD hcl;have:=aD hsv;have:=HKN.out;have:=HO3.out.size;have:=HWS.out;rcases hb with rfl|rfl|rfl
   ·exact⟨by omega,by omega⟩
   ·exact⟨by omega,by omega⟩
   ·exact⟨by omega,by omega⟩,OO.out.aB ho⟩
  clear k1;have B4:=hid (ho.got B1.out (by simp));have HBC1:Hid (b1≠bc):=hid (by have:=aD B1.out;omega);clear hsv hcl hvn hcn hne ho HCK HKN B1 OO HO3 hbk;have k1_0:=aA B4.out 0;have l1:=aD B4.out;go_wp2_with fail
  clear k1_0 l1;obtain⟨wo,hwo⟩:∃ wo:World,wo=w4:=⟨_,rfl⟩;subst hwo;go_loopw [30] (fun vi wr=>∃ (k:Nat) (ps:List (Nat × Nat × Nat)) (v:Value),k<=n/\vi=.int .i64 k/\ps.length=k/\NwS w ⟨(n:Int),tl,pr,kp,⟨sk,si,sm,sf,sl⟩,ra,mn,mx⟩ raw time bk bv bc wr ps v/\b1 ∉ v.ownBlock.toList/\Only [] w wr/\wr.heap[b1]? = some (.cells #[.int .i64 (n:Int),.int .i64 tl,.int .i64 pr,.int .i64 kp,.int .i64 sk,.int .i64 si,.int .i64 sm,.int .i64 sf,.int .i64 sl,.int .i64 ra,.int .i64 mn,.int .i64 mx] 58 (0,0))) (fun vi _=>n-(intOf vi).toNat)
  case atStart=>exact⟨0,[],_,Nat.zero_le _,rfl,rfl,HNW.out,by simp[Value.ownBlock],HNW.out.only,B4.out⟩
  case round =>
   obtain⟨k,ps,v,hk,rfl,hpl,hnw,hvb,ho,hbx⟩:=hrel;have HXB:=hid hvb;clear hvb;have NW:=hid hnw;have BX:=hid hbx;have OW:=hid ho;clear hnw hbx ho HNW B4;by_cases hlt:k<n
   ·skip
    obtain⟨S,hS⟩:∃ S,v.ownBlock.toList=S:=⟨_,rfl⟩
    have hbS:bc ∉ S:=by
     rw[<-hS];intro h;have:=NW.out.nd;simp only[nodup_cons,mem_cons,List.mem_append,not_or] at this;exact this.1.2.2.1 h
    have hxS:b1 ∉ S:=by rw[<-hS];exact HXB.out
    have HSS:=hid hS;clear hS;have hcl:=NW.out.cl;unfold clN at hcl;have k14:=aA hcl 14;have z14:=aM hcl 14;have lc:=aD hcl;have q1:=aA BX.out 1;have q6:=aA BX.out 10;have q7:=aA BX.out 11;have lx:=aD BX.out;have HL:Hid ((ps.map (·.1)).length=k):=hid (by rw[List.length_map];exact hpl);have hkb:k+1<=12:=by omega
    have HLT:=hid hlt;clear hcl hlt;go_upto_region 9 with (fail)
    refine dA [0,1,2,3,4,6,7,9,10,11,12,13,14,15] [20,21,22] (OnlyC S wr) (by kernel_rfl) (by kernel_rfl) ?_;simp only[pick,map_cons,map_nil,List.getD_cons_succ,List.getD_cons_zero];iterate 14 (refine aJ (fun K hK=>?_);go_simp;refine hK _ ?_;clear hK K)
    refine aN ?_;refine Rest.by (X:=Nat × Nat × Nat × Nat × Nat × Nat) (fun y a=>(((((((a.put (some 37) (.pointer (some ⟨y.1,0,none⟩))).put (some 40) (.pointer (some ⟨y.2.1,0,none⟩))).put (some 48) (.agg #[.pointer (some ⟨y.1,0,none⟩),.pointer (some ⟨y.2.1,0,none⟩),.int .i64 0,.int .i64 0,.int .i64 mn,.int .i64 mn,.int .i64 mx,.int .i64 0,.int .i64 0,.int .i64 0,.int .i64 0,.int .i64 0,.int .i64 0,.int .i64 0,.int .i64 0,.int .u32 0,.int .u32 0,.int .u32 0,.int .u64 0,.int .u64 0,.int .u64 0,.int .u64 0,.int .i64 0,.int .i64 0,.int .i64 0,.int .u32 0,.int .i64 0,.int .i64 0,.int .i64 0])).put (some 49) (.pointer (some ⟨y.2.2.1,0,none⟩))).put (some 50) (.slice (some ⟨y.2.2.2.1,0,none⟩) 1 1)).put (some 51) (.slice (some ⟨y.2.2.2.2.1,0,none⟩) ((ps.map (·.1)).length+1) y.2.2.2.2.2)).put (some 52) (.pointer (some ⟨bc,0,none⟩))).put (some 53) (.pointer (some ⟨bc,14,none⟩))) (fun y w'=>NwS w ⟨(n:Int),tl,pr,kp,⟨sk,si,sm,sf,sl⟩,ra,mn,mx⟩ raw time bk bv bc w' (ps ++ [(y.2.2.1,y.1,y.2.1)]) (.slice (some ⟨y.2.2.2.2.1,0,none⟩) ((ps.map (·.1)).length+1) y.2.2.2.2.2)/\b1≠y.2.2.2.2.1/\w'.heap[b1]? = some (.cells #[.int .i64 (n:Int),.int .i64 tl,.int .i64 pr,.int .i64 kp,.int .i64 sk,.int .i64 si,.int .i64 sm,.int .i64 sf,.int .i64 sl,.int .i64 ra,.int .i64 mn,.int .i64 mx] 58 (0,0))) ?_ ?_
    rotate_left
    ·have O0:=hid (Only.refl [] wr).drew
     refine aK [5] (by kernel_rfl) (by simp) (.inr (aZ (O0.out.weak (by simp)))) ?_;simp only[mem_cons,not_mem_nil,or_false,forall_eq];refine aC rfl ?_;go_wp2_with fail
     refine (HAN2.out _).mono ?_;rintro e x1 ⟨⟨sa,rfl,han,hsa⟩,ho⟩;have HAN1:Hid (wr.heap.size<=sa):=hid (Nat.le_trans O0.out.size han);have HSA:=hid hsa;replace O0:=hid (O0.out.aB ho);clear ho han hsa;go_wp2;simp only[bG];refine aK [8] (by kernel_rfl) (by simp) (.inr (aZ (O0.out.weak (by simp)))) ?_;simp only[mem_cons,not_mem_nil,or_false,forall_eq];refine aC rfl ?_;go_wp2_with fail
     refine (HFN.out _).mono ?_;rintro e x2 ⟨⟨sf0,rfl,hfn,hsf⟩,ho⟩;have HFN1:Hid (wr.heap.size<=sf0):=hid (Nat.le_trans O0.out.size hfn);have HSF:=hid hsf;have HAF:Hid (sa≠sf0):=hid (by have:=HSA.out.lt;omega);replace HSA:=hid (HSA.out.kept ho (by simp));replace O0:=hid (O0.out.aB ho);clear ho hfn hsf;go_wp2;simp only[bG];refine aK [16] (by kernel_rfl) (by simp) (.inr (aZ (O0.out.weak (by simp)))) ?_;simp only[mem_cons,not_mem_nil,or_false,forall_eq];refine aC rfl ?_;go_wp2;simp only[bG];refine aK [17] (by kernel_rfl) (by simp) (.inr (aZ (O0.out.weak (by simp)))) ?_;simp only[mem_cons,not_mem_nil,or_false,forall_eq];refine aC rfl ?_;go_wp2;simp only[bG];refine aF (G:=fun w0=>eU _ _ _ _ _ _ _ _ _ w0) ?_;intro x3 hb0 ho0 hz;clear hz;obtain⟨sb,hbc⟩:∃ b,x2.heap.size=b:=⟨_,rfl⟩;rw[hbc] at hb0;rw[hbc];have HSB1:Hid (wr.heap.size<=sb):=hid (by rw[<-hbc];exact O0.out.size);have HBA:Hid (sb≠sa):=hid (by have:=HSA.out.lt;omega);have HBF:Hid (sb≠sf0):=hid (by have:=HSF.out.lt;omega);replace HSA:=hid (HSA.out.kept ho0 (by simp));replace HSF:=hid (HSF.out.kept ho0 (by simp));replace O0:=hid (O0.out.aB ho0);have HSB:Hid (xM x3 sb sa sf0 (o9 ⟨(n:Int),tl,pr,kp,⟨sk,si,sm,sf,sl⟩,ra,mn,mx⟩)):=hid hb0;clear hb0 ho0 hbc;refine aK [18] (by kernel_rfl) (by simp) (.inr (aZ (O0.out.weak (by simp)))) ?_;simp only[mem_cons,not_mem_nil,or_false,forall_eq];refine aC rfl ?_;go_wp2;simp only[bG];refine aF (G:=fun w0=>eU _ _ _ _ _ _ _ _ _ w0) ?_;intro x4 hb0 ho0 hz;clear hz;obtain⟨ad,hbc⟩:∃ b,x3.heap.size=b:=⟨_,rfl⟩;rw[hbc] at hb0;rw[hbc];replace HSA:=hid (HSA.out.kept ho0 (by simp));replace HSF:=hid (HSF.out.kept ho0 (by simp));replace HSB:Hid (xM x4 sb sa sf0 (o9 ⟨(n:Int),tl,pr,kp,⟨sk,si,sm,sf,sl⟩,ra,mn,mx⟩)):=hid (ho0.got HSB.out (by simp));replace O0:=hid (O0.out.aB ho0);have HAD:=hid hb0;clear hb0 ho0 hbc;refine aK [19] (by kernel_rfl) (by simp) (.inr (aZ (O0.out.weak (by simp)))) ?_;simp only[mem_cons,not_mem_nil,or_false,forall_eq];refine aC rfl ?_;refine xQ (B:=w.heap.size) rfl _ _ 132 rfl 135 (.pointer none) 1 8 Tryz.underlying132 (by kernel_rfl) rfl (by decide) kR WH (ps.map (·.1)) v rfl (NW.out.own.kept O0.out) ad sb rfl (fun j u hj=>by rw[aA HAD.out,<-hj];simp[wB]) (by rw[HL.out];simp[maxLen];omega) (by rw[HL.out];omega) (Nat.le_trans NW.out.only.size O0.out.size) ?_;intro g' cap' x5 hown ho5 hg;have NX:=hid (NW.out.push O0.out HSB.out HSA.out HSF.out HSB1.out HAN1.out HFN1.out HBA.out HBF.out HAF.out hown ho5 hg)
     have HB1G:Hid (b1≠g'):=hid (by
      rcases hg with hg|hg
      ·intro e;exact HXB.out (by rw[hg,<-e];simp)
      ·have h1:=aD (O0.out.got BX.out (by simp));omega)
     rw[HSS.out] at ho5;have hcl5:=ho5.got (O0.out.got NW.out.cl (by simp)) hbS;unfold clN at hcl5;have BX5:=hid (ho5.got (O0.out.got BX.out (by simp)) hxS);have HC5:=hid (aZ ((O0.out.weak (S':=S) (by simp)).trans ho5 (fun x hx=>.inl hx)));clear hown ho5 hg k14 z14 lc q1 q6 q7 lx;have y14:=aA hcl5 14;have f14:=aM hcl5 14;have lc5:=aD hcl5;go_wp2;simp only[bG];refine aK [20] (by kernel_rfl) (by simp) (.inr HC5.out) ?_;simp only[mem_cons,not_mem_nil,or_false,forall_eq];refine aC rfl ?_;go_wp2;simp only[bG];refine aK [21] (by kernel_rfl) (by simp) (.inr HC5.out) ?_;simp only[mem_cons,not_mem_nil,or_false,forall_eq];refine aC rfl ?_;go_wp2;simp only[bG];refine aK [22] (by kernel_rfl) (by simp) (.inr HC5.out) ?_;simp only[mem_cons,not_mem_nil,or_false,forall_eq];refine aC rfl ?_;go_wp2;simp only[bG];exact dV (by kernel_rfl) (.inl (aQ (by kernel_rfl))) ⟨sa,sf0,sb,ad,g',cap',by simp,(by have:=NX.out;rw[HL.out] at this;exact this),HB1G.out,iK _ BX5.out HBC1.out⟩
    rintro⟨sa,sf0,sb,ad,g',cap'⟩ w5 ⟨hnw,hgb,hbx⟩;dsimp only at hnw hgb hbx;simp only[Act.put,List.setIfInBounds_toArray,List.set_cons_succ,List.set_cons_zero];have NX:=hid hnw;have HGB:=hid hgb;have BY:=hid hbx;clear hnw hgb hbx k14 z14 lc q1 q6 q7 lx;go_wp2;go_roundw
    case rel=>exact⟨k+1,_,_,by have:=HLT.out;omega,by go_num,by rw[List.length_append,hpl];rfl,NX.out,by simpa [Value.ownBlock] using HGB.out,NX.out.only,BY.out⟩
    case measure=>first|(simp[intOf];done)|(have:=HLT.out;simp[intOf];omega)
   ·obtain rfl:k=n:=by omega
    obtain⟨P,rfl,hP,hPl⟩:=NW.out.done (by omega) (by rw[hpl];simp);have HP:=hid (And.intro hP hPl);clear hP hPl hlt;go_wp2;go_ret
    exact⟨.inr ⟨HB.out,P,rfl,HP.out.1,HP.out.2⟩,OW.out⟩
end
section
open Go.RowKit
def aH (c:Cl) (raw:Int):Int × Int × Cl:=if (aY c raw).2=0 then ((aY c raw).1,0,{ c with last:=raw }) else ((aY c raw).1,(aY c raw).2,c)
theorem bP.RX {w w':World} {P:Pl} {c c':Cl} (h:bP w P c) (ho:Only [P.bc] w w') (hb:mI w' P c') (h1:c'.ck=c.ck) (h2:c'.sv=c.sv) (h3:c'.srcs=c.srcs):bP w' P c':=by
 have hnd:=h.nd;unfold Pl.all at hnd;simp only[nodup_cons,mem_cons,not_or] at hnd;obtain⟨⟨n1,n2,n3,n4⟩,_⟩:=hnd
 have key:∀ i (hi:i<P.ps.length),∀ x∈[P.ps[i].1,P.ps[i].2.1,P.ps[i].2.2],x ∉ [P.bc]:=fun i hi x hx hm=>by
  simp only[mem_cons,not_mem_nil,or_false] at hm;exact n4 (hm ▸ mem_flatMap.2 ⟨P.ps[i],getElem_mem hi,hx⟩)
 refine⟨hb,?_,?_,h.row.kept ho (by simpa using Ne.symm n3),h3 ▸ h.len,?_,h.nd,fun b hb=>Nat.lt_of_lt_of_le (h.lt b hb) ho.size⟩
 ·rw[h1];exact ho.got h.ck (by simpa using Ne.symm n1)
 ·rw[h2];exact ho.got h.sv (by simpa using Ne.symm n2)
 ·rw[h3]
  exact fun i hi hi'=>(h.src i hi hi').kept ho (key i hi _ (by simp)) (key i hi _ (by simp)) (key i hi _ (by simp))
theorem qJ {w:World} {P:Pl} {c:Cl} (h:bP w P c) (hok:iY c.ck) (raw:Int) (h0: -9223372036854775808<=raw) (h1:raw<=9223372036854775807) :
  Calls Tryz.prog 102 #[.pointer (some ⟨P.bc,0,none⟩),.int .i64 raw] w fun e w'=>e=.returned (.tuple #[.int .i64 (aH c raw).1,.int .i64 (aH c raw).2.1])/\mI w' P (aH c raw).2.2/\Only [P.bc] w w':=by
 have HN:=hid (fun w' (ho:Only [] w w')=>BF (h.kept ho) hok raw h0 h1);have hl:=h.cl;unfold mI at hl;have HE:Hid (aH c raw=if (aY c raw).2=0 then ((aY c raw).1,0,{ c with last:=raw }) else ((aY c raw).1,(aY c raw).2,c)):=hid rfl;generalize aH c raw=res at HE |-;have HXN:Hid (∃ x,x=aY c raw):=hid ⟨_,rfl⟩;generalize aY c raw=nn at HE HN;obtain⟨nv,ne⟩:=nn;dsimp only at HE HN;by_cases hz:ne=0
 ·subst hz
  obtain rfl:res=(nv,0,{ c with last:=raw }):=by have:=HE.out;simpa using this
  clear HE;go_enter Tryz.func102,Tryz.ntmps102
  have OO:=hid (Only.refl [P.bc] w);have B1:=hid hl;have k1:=nU B1.out;go_wp2_with fail
  refine (HN.out _ (Only.refl [] w)).mono ?_;rintro e w2 ⟨rfl,ho⟩;clear k1;replace OO:=hid (OO.out.aB ho);replace B1:=hid (ho.got B1.out (by simp));clear ho;have k1:=nU B1.out;go_upto_region 4 with (fail)
  refine kP (G:=fun w0=>Code.wp _ _ _ _ w0) (R:=fun w3=>w3.heap[P.bc]? = some (.cells #[.int .i64 c.cf.servers,.int .i64 c.cf.tol,.int .i64 c.cf.prec,.int .i64 c.cf.keep,.int .i64 c.cf.sv.kp,.int .i64 c.cf.sv.ki,.int .i64 c.cf.sv.lim,.int .i64 c.cf.sv.sf,.int .i64 c.cf.sv.sl,.int .i64 c.cf.rate,.int .i64 c.cf.mn,.int .i64 c.cf.mx,.pointer (some ⟨P.bk,0,none⟩),.pointer (some ⟨P.bv,0,none⟩),.slice (some ⟨P.g,0,none⟩) P.ps.length P.cap,.int .i64 raw,.int .i64 c.own.lo,.int .i64 c.own.hi,.int .i64 c.owned,.int .i64 c.rt.str,.int .i64 c.rt.dly,.int .i64 c.rt.dsp,.int .u32 c.rt.ref,.bool c.st,.int .i64 c.rd] 134 (0,0))/\Only [P.bc] w w3) ⟨(aG (o:=15) (.int .i64 raw) B1.out),(OO.out.setCell (.inl (by simp)) _)⟩ ?_;rintro w3 ⟨g1,ho⟩;clear k1;replace B1:=hid g1;replace OO:=hid ho;clear ho g1;have k1:=nU B1.out;go_wp2;go_ret2;exact⟨rfl,B1.out,OO.out⟩
 ·have q1:(ne == 0)=false:=by simpa using hz
  obtain rfl:res=(nv,ne,c):=by have:=HE.out;simpa [hz] using this
  clear HE hz;go_enter Tryz.func102,Tryz.ntmps102
  have OO:=hid (Only.refl [P.bc] w);have B1:=hid hl;have k1:=nU B1.out;go_wp2_with fail
  refine (HN.out _ (Only.refl [] w)).mono ?_;rintro e w2 ⟨rfl,ho⟩;clear k1;replace OO:=hid (OO.out.aB ho);replace B1:=hid (ho.got B1.out (by simp));clear ho;have k1:=nU B1.out;go_wp2;go_ret2;exact⟨rfl,B1.out,OO.out⟩
end
section
open Go.RowKit
theorem sH {α β:Type} {f:α->List β}:∀ {l:List α} {x:α},(l.flatMap f).Nodup->x∈l->(f x).Nodup
 | a::l,x,h,hx=>by
  rw[List.flatMap_cons,List.nodup_append] at h;rcases mem_cons.1 hx with rfl|hx
  ·exact h.1
  ·exact sH h.2.1 hx
def gZ (s:Sr) (raw now nonce:Int):Np × Int × Sr:=if (lK s.sa now nonce).2.1=0 then ({ (lK s.sa now nonce).1 with poll:=(oG s.rc).poll },0,{ s with sa:=(lK s.sa now nonce).2.2,sent:=raw,rc:=oG s.rc }) else (yC,(lK s.sa now nonce).2.1,{ s with sa:=(lK s.sa now nonce).2.2 })
theorem fK (c:Cl) (raw:Int):(aH c raw).2.2.ck=c.ck/\(aH c raw).2.2.sv=c.sv/\(aH c raw).2.2.srcs=c.srcs:=by
 unfold aH;split<;>exact⟨rfl,rfl,rfl⟩
theorem WK {P:Pl} (hnd:P.all.Nodup) {i:Nat} (hi:i<P.ps.length) {pb pa pf:Nat} (hp:P.ps[i]=(pb,pa,pf)):(P.bc≠pb/\P.bc≠pa/\P.bc≠pf/\P.g≠P.bc/\P.g≠pb/\P.g≠pa)/\pb≠pa/\pb≠pf/\pa≠pf:=by
 unfold Pl.all at hnd;simp only[nodup_cons,mem_cons,not_or] at hnd;obtain⟨⟨n1,n2,n3,n4⟩,⟨n5,n6,n7⟩,⟨n8,n9⟩,n10,n11⟩:=hnd;have key:∀ x∈[pb,pa,pf],x∈P.ps.flatMap fun p=>[p.1,p.2.1,p.2.2]:=fun x hx=>mem_flatMap.2 ⟨P.ps[i],getElem_mem hi,by rw[hp];exact hx⟩;have h3:=sH n11 (getElem_mem hi);rw[hp] at h3;simp only[nodup_cons,mem_cons,not_or,not_mem_nil,or_false,not_false_eq_true,List.nodup_nil,and_true] at h3;exact⟨⟨fun e=>n4 (e ▸ key pb (by simp)),fun e=>n4 (e ▸ key pa (by simp)),fun e=>n4 (e ▸ key pf (by simp)),Ne.symm n3,fun e=>n10 (e ▸ key pb (by simp)),fun e=>n10 (e ▸ key pa (by simp))⟩,h3.1.1,h3.1.2,h3.2⟩
theorem bP.ptr {w:World} {P:Pl} {c:Cl} (h:bP w P c) {i:Nat} (hi:i<P.ps.length):P.g<w.heap.size/\w.cell? ⟨P.g,i,none⟩=some (.pointer (some ⟨P.ps[i].1,0,none⟩)):=by
 have:=h.row.cell kR (i:=i) (j:=0) (x:=P.ps[i].1) (by rw[List.getElem?_map,List.getElem?_eq_getElem hi];rfl) (by decide);exact⟨h.row.lt,by simpa [wB] using this⟩
set_option synthInstance.maxSize 2000 in
set_option synthInstance.maxHeartbeats 400000 in
theorem pClSend {w:World} {P:Pl} {c:Cl} (h:bP w P c) (hok:iY c.ck) (raw:Int) (h0: -9223372036854775808<=raw) (h1:raw<=9223372036854775807) (nonce:Int) (i:Nat) (hi:i<P.ps.length) (he:(aH c raw).2.1=0) :
  Calls Tryz.prog 100 #[.pointer (some ⟨P.bc,0,none⟩),.int .i64 i,.int .i64 raw,.int .u64 nonce] w fun e w'=>∃ (hi':i<c.srcs.length),e=.returned (.tuple #[iL (gZ c.srcs[i] raw (aH c raw).1 nonce).1,.int .i64 (gZ c.srcs[i] raw (aH c raw).1 nonce).2.1])/\(mI w' P (aH c raw).2.2/\rZ w' P.ps[i] (gZ c.srcs[i] raw (aH c raw).1 nonce).2.2)/\Only [P.bc,P.ps[i].1,P.ps[i].2.1] w w':=by
 have hic:i<c.srcs.length:=h.len ▸ hi;suffices HW:Calls Tryz.prog 100 #[.pointer (some ⟨P.bc,0,none⟩),.int .i64 i,.int .i64 raw,.int .u64 nonce] w fun e w'=>e=.returned (.tuple #[iL (gZ c.srcs[i] raw (aH c raw).1 nonce).1,.int .i64 (gZ c.srcs[i] raw (aH c raw).1 nonce).2.1])/\(mI w' P (aH c raw).2.2/\rZ w' P.ps[i] (gZ c.srcs[i] raw (aH c raw).1 nonce).2.2)/\Only [P.bc,P.ps[i].1,P.ps[i].2.1] w w' from HW.mono fun e w' h=>⟨hic,h⟩
 have hn12:P.ps.length<=9223372036854775807:=by
  obtain⟨cur,_,_,g1,g2,_⟩:=h.row;rw[List.length_map] at g1;exact Nat.le_trans (Nat.le_trans g1 g2) (by decide)
 obtain⟨pb,pa,pf,hp⟩:∃ pb pa pf,P.ps[i]=(pb,pa,pf):=⟨_,_,_,rfl⟩;obtain⟨⟨d1,d2,d3,d4,d5,d6⟩,d7,d8,d9⟩:=WK h.nd hi hp;have hps:∀ x∈[pb,pa,pf],x∈P.all:=fun x hx=>by unfold Pl.all;simp only[mem_cons];exact .inr (.inr (.inr (.inr (mem_flatMap.2 ⟨P.ps[i],getElem_mem hi,by rw[hp];exact hx⟩))))
 have lbc:=h.lt P.bc (by simp[Pl.all]);have lpb:=h.lt pb (hps _ (by simp));have lpa:=h.lt pa (hps _ (by simp));have lpf:=h.lt pf (hps _ (by simp));have HEN:=hid (fun w' (o:Only [] w w')=>qJ (h.kept o) hok raw h0 h1);have HO:=hid (fun w'=>gF i 0 ((P.ps.length:Int)-1) w');rw[show bT (i:Int) 0 ((P.ps.length:Int)-1)=true from aW.2 ⟨by omega,by omega⟩] at HO;have r1:IntKind.i64.wrap ((P.ps.length:Int)-1)=(P.ps.length:Int)-1:=by rw[IntKind.wrap_i64];omega
 obtain⟨now,er,c1,hce⟩:∃ now er c1,aH c raw=(now,er,c1):=⟨_,_,_,rfl⟩;have HSM:=fK c raw;rw[hce] at HEN he HSM |-;obtain rfl:er=0:=he;obtain⟨s,hs⟩:∃ s,c.srcs[i]=s:=⟨_,rfl⟩;rw[hs,hp];obtain⟨R,HR⟩:∃ R:Np × Int × Sr,Hid (gZ s raw now nonce=R):=⟨_,hid rfl⟩;dsimp only at HEN HSM |-;rw[HR.out];unfold gZ at HR;have HPT:=hid (h.ptr hi);have hsr:=h.src i hi hic;rw[hp] at HPT;rw[hp,hs] at hsr;have HSR:=hid hsr;have hl:=h.cl;unfold mI at hl;have hii:(i:Int)<(P.ps.length:Int):=by omega
 have hn0:¬ (i:Int)<0:=by omega
 have HPL:=hid hp;clear hp hs hce h HSM hsr;obtain⟨wo,hwo⟩:∃ wo:World,wo=w:=⟨_,rfl⟩;subst hwo;have m:=mY hl;have k:=m.out.k;clear hl;go_enter Tryz.func100,Tryz.ntmps100
 go_wp2_with ((with_reducible first|refine cU ?_|refine cM (HO.out _) ?_|refine wU ?_);clear k m;intro w m k)
 refine (HEN.out _ m.out.only).mono ?_;rintro e w2 ⟨rfl,hcl,ho2⟩;have hb2:w2.heap[wo.heap.size]? = some (.cells #[.int .i64 0,.int .i64 0,.int .i64 0,.int .i64 0,.int .i64 0,.int .i64 0,.int .u32 0,.int .u32 0,.int .u32 0,.int .u64 0,.int .u64 0,.int .u64 0,.int .u64 0] 143 (0,0)):=ho2.got (gB (w:=w)) (by simp;omega);have O2:=hid ((m.out.only.weak (S':=[P.bc]) (by simp)).trans ho2 (by simp));clear k m HEN ho2;obtain⟨wq,hwq⟩:∃ wq:World,wq=w2:=⟨_,rfl⟩;subst hwq;have hsr:=HSR.out.kept O2.out (by simp;omega) (by simp;omega) (by simp;omega);have hsb:=hsr.b;have HCL:=hid hcl;unfold mI at hcl;unfold xM at hsb;have HX:=hid (fun w' (o:Only [] wq w')=>And.intro (Nat.lt_of_lt_of_le HPT.out.1 (O2.out.trans o (by simp)).size) (((O2.out.trans o (by simp)).cell HPT.out.1 (by simp;omega)).trans HPT.out.2));have HB2:=hid hb2;have HSB:=hid hsb;have HF:=hid hsr.f;have HA:=hid (fun w' (o:Only [] wq w')=>pASend (hsr.a.kept o (by simp)) now nonce);have HSH:=hid (fun w'=>pShift s.rc w');generalize lK s.sa now nonce=asd at HA HR;obtain⟨⟨p1,p2,p3,p4,p5,p6,p7,p8,p9,p10,p11,p12,p13⟩,ae,as2⟩:=asd;generalize oG s.rc=rc2 at HSH HR;obtain⟨r1,r2,r3,r4,r5⟩:=rc2;simp only[iL,I9] at HA HSH;dsimp only at HR;have m:Mm wq [] wq _:=⟨((Mem.start wq []).ext false hcl (by simp) (by simp)).ext false hsb (by simp;omega) (by simp)⟩;have k:=m.out.k;have c:=HX.out wq (Only.refl _ _);clear hcl hsb hsr hb2;go_wp2_with ((with_reducible first|refine cU ?_|refine wU ?_);clear k m c;intro w m k;have c:=HX.out w m.out.only)
 refine (HA.out _ m.out.only).mono ?_;rintro e w3 ⟨rfl,hA3,ho3⟩;have ho3:=m.out.only.weak (S':=[pa]) (by simp) |>.trans ho3 (by simp)
 have hb3:=ho3.got HB2.out (by simp;omega);have hsb3:=ho3.got HSB.out (by simp;omega);have HCL3:=hid (show mI w3 P c1 from ho3.got HCL.out (by simp;omega));have HF3:=hid (HF.out.kept ho3 (by simp;omega));have O3:=hid ((O2.out.weak (S':=[P.bc,pb,pa]) (by simp)).trans ho3 (by simp));clear k m c ho3 HA;obtain⟨wp,hwp⟩:∃ wp:World,wp=w3:=⟨_,rfl⟩;subst hwp
 have HFIN:=hid (fun w' s' (o:Only [wo.heap.size,pb] wp w') (hb:xM w' pb pa pf s') (e1:s'.sa=as2) (e2:s'.fl=s.fl)=>show (mI w' P c1/\rZ w' (pb,pa,pf) s')/\Only [P.bc,pb,pa] wo w' from
  ⟨⟨o.got HCL3.out (by simp;omega),hb,by rw[e1];exact hA3.kept o (by simp;omega),by rw[e2];exact HF3.out.kept o (by simp;omega)⟩,O3.out.trans o (by simp)⟩)
 have m:Mm wp [wo.heap.size,pb] wp _:=⟨((Mem.start wp [wo.heap.size,pb]).ext true hb3 (by simp) (by simp)).ext true hsb3 (by simp;omega) (by simp)⟩;have k:=m.out.k;clear hb3 hsb3;by_cases hne:ae=0
 focus
  subst hne;rw[if_pos rfl] at HR
 rotate_left 1
 focus
  rw[if_neg hne] at HR;have q1:(ae != 0)=true:=by simpa using hne
 all_goals
  obtain rfl:=HR.out;clear HR;go_wp2_with (first|((with_reducible first|refine cU ?_|refine cM (HSH.out _) ?_|refine wU ?_);clear k m;intro w m k)|((with_reducible refine lE (fun w o g k K hK=>⟨rfl,?_⟩));simp[results,Tryz.results100,go_sem,k];refine hK _ ?_;exact⟨rfl,HFIN.out w _ o (Has.h w g) rfl rfl⟩))
end
end Go.Proofs.YthbgcpfklmlnjaaGreat
