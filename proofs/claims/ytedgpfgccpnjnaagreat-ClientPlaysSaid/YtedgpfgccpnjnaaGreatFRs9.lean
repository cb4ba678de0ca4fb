/- Rs9 Rsa -/
import Derived.Test.YtedgpfgccpnjnaaGreatFRs1
import Derived.Test.YtedgpfgccpnjnaaGreatFRr7
import Derived.Test.YtedgpfgccpnjnaaGreatFRq2
import Derived.Test.YtedgpfgccpnjnaaGreatFRr1
import Derived.Test.YtedgpfgccpnjnaaGreatFRr4
namespace Go.Proofs.YtedgpfgccpnjnaaGreat
section
open Go.RowKit Go.Sort
def clQ (c:Cf) (raw:Int) (bk bv:Nat) (v:Value):Array Value:=#[.int .i64 c.servers,.int .i64 c.tol,.int .i64 c.prec,.int .i64 c.keep,.int .i64 c.sv.kp,.int .i64 c.sv.ki,.int .i64 c.sv.lim,.int .i64 c.sv.sf,.int .i64 c.sv.sl,.int .i64 c.rate,.int .i64 c.mn,.int .i64 c.mx,v,.pointer (some ⟨bk,0,none⟩),.pointer (some ⟨bv,0,none⟩),.int .i64 (-4503599627370496),.int .i64 4503599627370496,.int .i64 raw,.int .i64 raw,.bool false,.int .i64 0,.int .i64 16,.int .i64 0,.int .i64 0,.int .u32 0]
def QSr0 (w:World) (p:Nat × Nat × Nat) (s:Sr):Prop:=QSrB w p.1 p.2.1 p.2.2 s∧QAsAt w p.2.1 s.sa∧∀ M,QFlAt M w p.2.2 s.fl
theorem QSr0.kept {S:List Nat} {w w':World} {p:Nat × Nat × Nat} {s:Sr} (h:QSr0 w p s) (ho:Only S w w') (h1:p.1 ∉ S) (h2:p.2.1 ∉ S) (h3:p.2.2 ∉ S):QSr0 w' p s:=
 ⟨ho.got h.1 h1,h.2.1.kept ho h2,fun M=>((h.2.2 (S ++ M)).kept ho h3 (fun x hx=>.inl (by simp[hx]))).more (fun x hx=>.inl (by simp[hx]))⟩
structure QNwS (w:World) (c:Cf) (raw time:Int) (bk bv bc:Nat) (wr:World) (ps:List (Nat × Nat × Nat)) (v:Value):Prop where
 cl:wr.heap[bc]? = some (.cells (clQ c raw bk bv v) 86 (0,0))
 ck:QCkAt wr bk ⟨raw,time,0,0⟩
 sv:QSvAt wr bv ⟨c.sv,0,0,0⟩
 own:Own ptrC 87 1 w.heap.size wr v (ps.map (·.1))
 src:∀ p∈ps,QSr0 wr p (sr0 c)
 nd:(bc::bk::bv::(v.ownBlock.toList ++ tri ps)).Nodup
 lt:∀ b∈bc::bk::bv::(v.ownBlock.toList ++ tri ps),w.heap.size≤b∧b<wr.heap.size
 only:Only [] w wr
theorem QNwS.grow {w:World} {c:Cf} {raw time:Int} {bk bv bc:Nat} {wr w':World} {ps:List (Nat × Nat × Nat)} {v:Value} (h:QNwS w c raw time bk bv bc wr ps v) (ho:Only [] wr w'):QNwS w c raw time bk bv bc w' ps v:=
 ⟨ho.got h.cl (by simp),ho.got h.ck (by simp),ho.got h.sv (by simp),h.own.kept ho,fun p hp=>(h.src p hp).kept ho (by simp) (by simp) (by simp),h.nd,fun b hb=>⟨(h.lt b hb).1,Nat.lt_of_lt_of_le (h.lt b hb).2 ho.size⟩,h.only.nil_trans ho⟩
theorem QNwS.push {w:World} {c:Cf} {raw time:Int} {bk bv bc:Nat} {wr w4 w5:World} {ps:List (Nat × Nat × Nat)} {v:Value} {b a f g' cap':Nat} (h:QNwS w c raw time bk bv bc wr ps v)
  (ho:Only [] wr w4) (hb:QSrB w4 b a f (sr0 c)) (ha:QAsAt w4 a as4) (hf:∀ M,QFlAt M w4 f ⟨c.tol,[]⟩) (hbn:wr.heap.size≤b) (han:wr.heap.size≤a) (hfn:wr.heap.size≤f) (h1:b≠a) (h2:b≠f) (h3:a≠f)
  (hown:Own ptrC 87 1 w.heap.size w5 (.slice (some ⟨g',0,none⟩) ((ps.map (·.1)).length+1) cap') (ps.map (·.1) ++ [b])) (ho5:Only v.ownBlock.toList w4 w5) (hg:v.ownBlock=some g'∨g'=w4.heap.size) :
  QNwS w c raw time bk bv bc (w5.setCell ⟨bc,12,none⟩ (.slice (some ⟨g',0,none⟩) ((ps.map (·.1)).length+1) cap')) (ps ++ [(b,a,f)]) (.slice (some ⟨g',0,none⟩) ((ps.map (·.1)).length+1) cap'):=by
 have h4:=h.grow ho;have hbl:=got_lt hb;have hal:=ha.lt;have hfl:=(hf []).lt;have hnd:=h.nd;have hlt:=h.lt;have hlt4:=h4.lt;have key:∀ x,x∈bc::bk::bv::(v.ownBlock.toList ++ tri ps)→x<wr.heap.size:=fun x hx=>(hlt x hx).2;have vb:∀ x∈v.ownBlock.toList,x∈bc::bk::bv::(v.ownBlock.toList ++ tri ps):=fun x hx=>by simp only[List.mem_cons,List.mem_append];exact .inr (.inr (.inr (.inl hx)))
 have vlt:∀ x∈v.ownBlock.toList,x<wr.heap.size:=fun x hx=>key x (vb x hx);simp only[List.nodup_cons,List.mem_cons,List.mem_append,not_or,List.nodup_append] at hnd;obtain⟨⟨n1,n2,n3,n4⟩,⟨n5,n6,n7⟩,⟨n8,n9⟩,n10,n11,n12⟩:=hnd;have hge:wr.heap.size≤w4.heap.size:=ho.size
 have g5:g'<w5.heap.size:=by
  rcases hown with ⟨he,_⟩|⟨g2,cap2,he,_,hr⟩
  ·cases he
  ·simp only[Value.slice.injEq,Option.some.injEq,Addr.mk.injEq,and_true] at he
   obtain⟨rfl,_⟩:=he;exact hr.lt
 have hsb:∀ x∈v.ownBlock.toList,x≠bc:=fun x hx e=>n3 (e ▸ hx)
 have hgn:g'=w4.heap.size∨g'∈v.ownBlock.toList:=by
  rcases hg with hg|hg
  ·exact .inr (by rw[hg];simp)
  ·exact .inl hg
 have S:Only [bc] w5 (w5.setCell ⟨bc,12,none⟩ (.slice (some ⟨g',0,none⟩) ((ps.map (·.1)).length+1) cap')):=(Only.refl [bc] w5).setCell (.inl (by simp)) _;have bc5:w5.heap[bc]? = some (.cells (clQ c raw bk bv v) 86 (0,0)):=ho5.got h4.cl n3;have fresh:∀ x,wr.heap.size≤x→x ∉ v.ownBlock.toList:=fun x hx hm=>by have:=vlt x hm;omega
 have nb:∀ x,wr.heap.size≤x→x≠bc:=fun x hx e=>by have:=key bc (by simp);omega
 have gbc:g'≠bc:=by
  rcases hgn with e|e
  ·rw[e];exact nb _ hge
  ·exact hsb g' e
 refine⟨?_,?_,?_,?_,?_,?_,?_,?_⟩
 ·rw[setCell_got _ bc5];rfl
 ·exact S.got (ho5.got h4.ck n6) (by simp;exact Ne.symm n1)
 ·exact S.got (ho5.got h4.sv n8) (by simp;exact Ne.symm n2)
 ·rw[List.map_append]
  rcases hown with ⟨he,_⟩|⟨g2,cap2,he,hge2,hr⟩
  ·cases he
  ·simp only[Value.slice.injEq,Option.some.injEq,Addr.mk.injEq,and_true] at he
   obtain⟨rfl,hn2,rfl⟩:=he;exact .inr ⟨g',cap',by simp,hge2,hr.kept S (by simpa using gbc)⟩
 ·intro p hp
  rcases List.mem_append.1 hp with hp|hp
  ·have hin:∀ x∈[p.1,p.2.1,p.2.2],x∈tri ps:=fun x hx=>List.mem_flatMap.2 ⟨p,hp,hx⟩
   have nn:∀ x∈[p.1,p.2.1,p.2.2],x ∉ v.ownBlock.toList∧x≠bc:=fun x hx=>⟨fun hm=>n12 x hm x (hin x hx) rfl,fun e=>n4 (e ▸ hin x hx)⟩;have q1:=nn p.1 (by simp);have q2:=nn p.2.1 (by simp);have q3:=nn p.2.2 (by simp);exact ((h4.src p hp).kept ho5 q1.1 q2.1 q3.1).kept S (by simpa using q1.2) (by simpa using q2.2) (by simpa using q3.2)
  ·simp only[List.mem_cons,List.not_mem_nil,or_false] at hp
   subst hp;exact (QSr0.kept ⟨hb,ha,hf⟩ ho5 (fresh _ hbn) (fresh _ han) (fresh _ hfn)).kept S (by simpa using nb _ hbn) (by simpa using nb _ han) (by simpa using nb _ hfn)
 ·have tlt:∀ x∈tri ps,x<wr.heap.size:=fun x hx=>key x (by simp only[List.mem_cons,List.mem_append];exact .inr (.inr (.inr (.inr hx))))
  have gk:g'≠bk:=by rcases hgn with e|e;(have:=key bk (by simp);omega);exact fun e2=>n6 (e2 ▸ e)
  have gv:g'≠bv:=by rcases hgn with e|e;(have:=key bv (by simp);omega);exact fun e2=>n8 (e2 ▸ e)
  have gt:g' ∉ tri ps:=by
   rcases hgn with e|e
   ·intro hm;have:=tlt _ hm;omega
   ·intro hm;exact n12 g' e g' hm rfl
  have kb:=key bc (by simp);have kk:=key bk (by simp);have kv:=key bv (by simp)
  have gg:g'≠b∧g'≠a∧g'≠f:=by
   rcases hgn with e|e
   ·exact⟨by omega,by omega,by omega⟩
   ·have:=vlt _ e;exact⟨by omega,by omega,by omega⟩
  rw[tri_append];simp only[Value.ownBlock,Option.toList_some,List.nodup_cons,List.mem_cons,List.mem_append,List.not_mem_nil,or_false,not_or,List.nodup_append,List.nodup_nil,and_true,not_false_eq_true];refine⟨⟨n1,n2,Ne.symm gbc,n4,by omega,by omega,by omega⟩,⟨n5,Ne.symm gk,n7,by omega,by omega,by omega⟩,⟨Ne.symm gv,n9,by omega,by omega,by omega⟩,?_⟩;refine⟨trivial,⟨n11,⟨⟨h1,h2⟩,h3⟩,?_⟩,?_⟩
  ·intro x hx y hy e
   have:=tlt x hx;rcases hy with rfl|rfl|rfl<;>omega
  ·intro x hx y hy e
   subst hx;rcases hy with hy|rfl|rfl|rfl
   ·exact gt (e ▸ hy)
   ·exact gg.1 e
   ·exact gg.2.1 e
   ·exact gg.2.2 e
 ·intro x hx
  rw[size_setCell,tri_append] at *;simp only[Value.ownBlock,Option.toList_some,List.mem_cons,List.mem_append,List.not_mem_nil,or_false] at hx;have h5:=ho5.size;have hw:=h.only.size;have old:∀ y,y∈bc::bk::bv::(v.ownBlock.toList ++ tri ps)→w.heap.size≤y∧y<w5.heap.size:=fun y hy=>⟨(hlt y hy).1,Nat.lt_of_lt_of_le (hlt4 y hy).2 h5⟩;rcases hx with rfl|rfl|rfl|rfl|hx|rfl|rfl|rfl
  ·exact old _ (by simp)
  ·exact old _ (by simp)
  ·exact old _ (by simp)
  ·refine⟨?_,g5⟩
   rcases hgn with e|e
   ·omega
   ·exact (hlt _ (vb _ e)).1
  ·exact old _ (by simp only[List.mem_cons,List.mem_append];exact .inr (.inr (.inr (.inr hx))))
  ·exact⟨by omega,by omega⟩
  ·exact⟨by omega,by omega⟩
  ·exact⟨by omega,by omega⟩
 ·refine ((h4.only.trans ho5 (fun x hx=>.inr ?_)).setCell (.inr ?_) _)
  ·exact (hlt x (vb x hx)).1
  ·exact (hlt bc (by simp)).1
def QClNewR (w0:World) (c:Cf) (raw time:Int) (e:Ending) (w:World):Prop:=
 ((isT raw && isT time)=false∧e=.returned (.pointer none))∨((isT raw && isT time)=true∧∃ P,e=.returned (.pointer (some ⟨P.bc,0,none⟩))∧(∀ M,(∀ b∈P.all,b∈M)→(∀ x∈M,x<w.heap.size)→QClAt M w P (cl0 c raw time))∧∀ b∈P.all,w0.heap.size≤b∧b<w.heap.size)
theorem QNwS.done {w:World} {c:Cf} {raw time:Int} {bk bv bc:Nat} {wr:World} {ps:List (Nat × Nat × Nat)} {v:Value} (h:QNwS w c raw time bk bv bc wr ps v) (h0:0<ps.length) (hn:ps.length=c.servers.toNat) :
  ∃ P:Pl,P.bc=bc∧(∀ M,(∀ b∈P.all,b∈M)→(∀ x∈M,x<wr.heap.size)→QClAt M wr P (cl0 c raw time))∧∀ b∈P.all,w.heap.size≤b∧b<wr.heap.size:=by
 obtain⟨h1,h2,h3,h4,h5,h6,h7,h8⟩:=h;rcases h4 with ⟨_,he⟩|⟨g,cap,rfl,hg,hr⟩
 ·have:=congrArg List.length he
  simp at this;subst this;simp at h0
 ·have hl:(List.map (fun x=>x.1) ps).length=ps.length:=by simp
  simp only[Value.ownBlock,Option.toList_some,List.cons_append,List.nil_append] at h6 h7;refine⟨⟨bc,bk,bv,g,cap,ps⟩,rfl,fun M hM hS=>⟨?_,h2,h3,hr,?_,?_,h6,fun b hb=>(h7 b hb).2,hM,hS⟩,fun b hb=>h7 b hb⟩
  ·unfold QClB
   rw[h1,hl];rfl
  ·simp[cl0,hn]
  ·intro i hi hi'
   have e:(cl0 c raw time).srcs[i]=sr0 c:=by simp[cl0]
   rw[e];have:=h5 _ (List.getElem_mem hi);exact⟨this.1,this.2.1,this.2.2 M⟩
end
section
open Go.Lib (hid)
set_option maxRecDepth 100000
set_option maxHeartbeats 4000000
open Go.RowKit Go.Sort
theorem qClNew (c:Cf) (raw time:Int) (hc:ccheck c=0) (hs:svchk c.sv=0) (h1:1≤c.servers∧c.servers≤12) (h2:0≤c.tol∧c.tol≤500000) (w:World) :
  Calls Tryz.prog 9 #[cfV c,.int .i64 raw,.int .i64 time] w fun e w'=>QClNewR w c raw time e w'∧Only [] w w':=by
 obtain⟨sr,tl,pr,kp,⟨sk,si,sm,sf,sl⟩,ra,mn,mx⟩:=c;have HCH:=hid (fun w'=>qCCheck ⟨sr,tl,pr,kp,⟨sk,si,sm,sf,sl⟩,ra,mn,mx⟩ w');rw[hc] at HCH;have HSV:=hid (fun w'=>qSvNew ⟨sk,si,sm,sf,sl⟩ hs w');have HEV:=hid (fun w'=>qEvery w');have HCN:=hid (fun w'=>qCNew raw time w');have HAN2:=hid (fun w'=>qANew w');have HFN:=hid (fun w'=>qFNew tl h2.1 h2.2 w');dsimp only at h1 h2;have HRES:Hid (∀ e w',QClNewR w ⟨sr,tl,pr,kp,⟨sk,si,sm,sf,sl⟩,ra,mn,mx⟩ raw time e w'↔QClNewR w ⟨sr,tl,pr,kp,⟨sk,si,sm,sf,sl⟩,ra,mn,mx⟩ raw time e w'):=hid (fun _ _=>Iff.rfl);unfold cfV at HCH ⊢;unfold scV at HSV;unfold ivV evI at HEV;dsimp only at HCH HSV HEV ⊢;obtain⟨n,rfl⟩:∃ n:Nat,sr=(n:Int):=⟨sr.toNat,by omega⟩;go_enter Tryz.func9,Tryz.ntmps9
 go_upto_region 1 with (fail)
 refine alloc_abs (G:=fun w0=>Code.wp _ _ _ _ w0) ?_;intro w1 hb1 ho1 hs1;obtain⟨b1,hbe1⟩:∃ b,w.heap.size=b:=⟨_,rfl⟩;rw[hbe1] at hb1;rw[hbe1];have HN:Hid (w.heap.size≤b1):=hid (by omega);have B1:=hid hb1;have OO:=hid ho1;clear hb1 hs1 hbe1;clear ho1;have k1:=c_12 B1.out;go_wp2_with fail
 have HWS:=hid OO.out.size;refine (HCN.out _).mono ?_;rintro e w2 ⟨hr,ho⟩;clear k1;have HR:=hid hr;replace OO:=hid (OO.out.nil_trans ho);replace B1:=hid (ho.got B1.out (by simp));have HO2:=hid ho;clear ho hr;have k1:=c_12 B1.out;have hcn:∃ v,e=.returned (.pointer v):=by rcases HR.out with ⟨_,h⟩|⟨_,b,h,_⟩<;>exact⟨_,h⟩
 obtain⟨cv,rfl⟩:=hcn;go_wp2_with fail
 refine (HCH.out _).mono ?_;rintro e w3 ⟨rfl,ho⟩;clear k1;replace OO:=hid (OO.out.nil_trans ho);replace B1:=hid (ho.got B1.out (by simp));have HO3:=hid ho;clear ho;have k1:=c_12 B1.out;rcases HR.out with ⟨hb,hcv⟩|⟨hb,bk,hcv,hkn,hck⟩
 ·cases hcv
  have HB:=hid hb;clear hb HR;go_wp2;go_ret
  exact⟨.inl ⟨HB.out,rfl⟩,OO.out⟩
 ·cases hcv
  have HB:=hid hb;have HCK:=hid (HO3.out.got hck (by simp));have HKN:=hid hkn;clear hb HR hck hkn;have hbk:=got_lt HCK.out;go_upto_region 4 with (fail)
  refine wp_region_calm2 [0,1,2,3,6,7,8] [] (OnlyC ([]:List Nat) w3) (by kernel_rfl) (by kernel_rfl) ?_;simp only[pick,List.map_cons,List.map_nil,List.getD_cons_succ,List.getD_cons_zero];iterate 7 (refine wpCalm_step (fun K hK=>?_);go_simp;refine hK _ ?_;clear hK K)
  refine wpCalm_nil ?_;refine Rest.by (X:=Nat × Nat) (fun y a=>(((((a.put (some 24) (.pointer (some ⟨y.1,0,none⟩))).put (some 25) (.agg #[.int .i64 (-4503599627370496),.int .i64 4503599627370496])).put (some 29) (.agg #[.int .i64 (n:Int),.int .i64 tl,.int .i64 pr,.int .i64 kp,.int .i64 sk,.int .i64 si,.int .i64 sm,.int .i64 sf,.int .i64 sl,.int .i64 ra,.int .i64 mn,.int .i64 mx,.slice none 0 0,.pointer (some ⟨bk,0,none⟩),.pointer (some ⟨y.1,0,none⟩),.int .i64 (-4503599627370496),.int .i64 4503599627370496,.int .i64 raw,.int .i64 raw,.bool false,.int .i64 0,.int .i64 16,.int .i64 0,.int .i64 0,.int .u32 0])).put (some 30) (.pointer (some ⟨y.2,0,none⟩))).put (some 8) (.pointer (some ⟨y.2,0,none⟩)))) (fun y w'=>QSvAt w' y.1 ⟨⟨sk,si,sm,sf,sl⟩,0,0,0⟩∧w'.heap[y.2]? = some (.cells #[.int .i64 (n:Int),.int .i64 tl,.int .i64 pr,.int .i64 kp,.int .i64 sk,.int .i64 si,.int .i64 sm,.int .i64 sf,.int .i64 sl,.int .i64 ra,.int .i64 mn,.int .i64 mx,.slice none 0 0,.pointer (some ⟨bk,0,none⟩),.pointer (some ⟨y.1,0,none⟩),.int .i64 (-4503599627370496),.int .i64 4503599627370496,.int .i64 raw,.int .i64 raw,.bool false,.int .i64 0,.int .i64 16,.int .i64 0,.int .i64 0,.int .u32 0] 86 (0,0))∧w3.heap.size≤y.1∧w3.heap.size≤y.2∧y.1≠y.2∧Only [] w3 w') ?_ ?_
  rotate_left
  ·have O0:=hid (Only.refl [] w3).drew
   refine wpAnyC_next [4] (by kernel_rfl) (by simp) (.inr (onlyC O0.out)) ?_;simp only[List.mem_cons,List.not_mem_nil,or_false,forall_eq];refine wpOp_one rfl ?_;go_wp2_with fail
   refine (HSV.out _).mono ?_;rintro e x1 ⟨⟨bv,rfl,hvn,hsv⟩,ho⟩;have HVN:Hid (w3.heap.size≤bv):=hid (Nat.le_trans O0.out.size hvn);replace O0:=hid (O0.out.nil_trans ho);have HVA:=hid hsv;clear ho hvn hsv;go_wp2;simp only[nrm];refine wpAnyC_next [5] (by kernel_rfl) (by simp) (.inr (onlyC O0.out)) ?_;simp only[List.mem_cons,List.not_mem_nil,or_false,forall_eq];refine wpOp_one rfl ?_;go_wp2_with fail
   refine (HEV.out _).mono ?_;rintro e x2 ⟨rfl,ho⟩;replace O0:=hid (O0.out.nil_trans ho);replace HVA:Hid (QSvAt x2 bv ⟨⟨sk,si,sm,sf,sl⟩,0,0,0⟩):=hid (ho.got HVA.out (by simp));clear ho;go_wp2;simp only[nrm];refine wpAnyC_next [9] (by kernel_rfl) (by simp) (.inr (onlyC O0.out)) ?_;simp only[List.mem_cons,List.not_mem_nil,or_false,forall_eq];refine wpOp_one rfl ?_;go_wp2;simp only[nrm];refine wpAnyC_next [10] (by kernel_rfl) (by simp) (.inr (onlyC O0.out)) ?_;simp only[List.mem_cons,List.not_mem_nil,or_false,forall_eq];refine wpOp_one rfl ?_;go_wp2;simp only[nrm];refine alloc_abs (G:=fun w0=>wpAnyC _ _ _ _ _ _ _ _ _ w0) ?_;intro x3 hb0 ho0 _;obtain⟨bc,hbc⟩:∃ b,x2.heap.size=b:=⟨_,rfl⟩;rw[hbc] at hb0;rw[hbc];have HBC:Hid (w3.heap.size≤bc):=hid (by rw[←hbc];exact O0.out.size);have HNE:Hid (bv≠bc):=hid (by have:=got_lt HVA.out;omega);replace HVA:Hid (QSvAt x3 bv ⟨⟨sk,si,sm,sf,sl⟩,0,0,0⟩):=hid (ho0.got HVA.out (by simp));replace O0:=hid (O0.out.nil_trans ho0);have HB0:=hid hb0;clear hb0 ho0 hbc;refine wpAnyC_next [11] (by kernel_rfl) (by simp) (.inr (onlyC O0.out)) ?_;simp only[List.mem_cons,List.not_mem_nil,or_false,forall_eq];refine wpOp_one rfl ?_;go_wp2;simp only[nrm];exact wpAnyC_done (by kernel_rfl) (.inr (onlyC O0.out)) ⟨(bv,bc),by simp[Act.put],HVA.out,HB0.out,HVN.out,HBC.out,HNE.out,O0.out⟩
  rintro⟨bv,bc⟩ w4 ⟨hsv,hcl,hvn,hcn,hne,ho⟩;dsimp only at hsv hcl hvn hcn hne;simp only[Act.put,List.setIfInBounds_toArray,List.set_cons_succ,List.set_cons_zero]
  have HNW:Hid (QNwS w ⟨(n:Int),tl,pr,kp,⟨sk,si,sm,sf,sl⟩,ra,mn,mx⟩ raw time bk bv bc w4 [] (.slice none 0 0)):=hid ⟨hcl,ho.got HCK.out (by simp),hsv,own_nil _ _,fun p hp=>by simp at hp,by
   simp[tri,Value.ownBlock];omega,fun b hb=>by
   simp only[Value.ownBlock,Option.toList_none,tri,List.flatMap_nil,List.append_nil,List.mem_cons,List.not_mem_nil,or_false] at hb;have:=ho.size;have:=got_lt hcl;have:=got_lt hsv;have:=HKN.out;have:=HO3.out.size;have:=HWS.out;rcases hb with rfl|rfl|rfl
   ·exact⟨by omega,by omega⟩
   ·exact⟨by omega,by omega⟩
   ·exact⟨by omega,by omega⟩,OO.out.nil_trans ho⟩
  clear k1;have B4:=hid (ho.got B1.out (by simp));have HBC1:Hid (b1≠bc):=hid (by have:=got_lt B1.out;omega);clear hsv hcl hvn hcn hne ho HCK HKN B1 OO HO3 hbk;have k1_0:=cell_got B4.out 0;have l1:=got_lt B4.out;go_wp2_with fail
  clear k1_0 l1;obtain⟨wo,hwo⟩:∃ wo:World,wo=w4:=⟨_,rfl⟩;subst hwo;go_loopw [9] (fun vi wr=>∃ (k:Nat) (ps:List (Nat × Nat × Nat)) (v:Value),k≤n∧vi=.int .i64 k∧ps.length=k∧QNwS w ⟨(n:Int),tl,pr,kp,⟨sk,si,sm,sf,sl⟩,ra,mn,mx⟩ raw time bk bv bc wr ps v∧b1 ∉ v.ownBlock.toList∧Only [] w wr∧wr.heap[b1]? = some (.cells #[.int .i64 (n:Int),.int .i64 tl,.int .i64 pr,.int .i64 kp,.int .i64 sk,.int .i64 si,.int .i64 sm,.int .i64 sf,.int .i64 sl,.int .i64 ra,.int .i64 mn,.int .i64 mx] 25 (0,0))) (fun vi _=>n-(intOf vi).toNat)
  case atStart=>exact⟨0,[],_,Nat.zero_le _,rfl,rfl,HNW.out,by simp[Value.ownBlock],HNW.out.only,B4.out⟩
  case round =>
   obtain⟨k,ps,v,hk,rfl,hpl,hnw,hvb,ho,hbx⟩:=hrel;have HXB:=hid hvb;clear hvb;have NW:=hid hnw;have BX:=hid hbx;have OW:=hid ho;clear hnw hbx ho HNW B4;by_cases hlt:k<n
   ·skip
    obtain⟨S,hS⟩:∃ S,v.ownBlock.toList=S:=⟨_,rfl⟩
    have hbS:bc ∉ S:=by
     rw[←hS];intro h;have:=NW.out.nd;simp only[List.nodup_cons,List.mem_cons,List.mem_append,not_or] at this;exact this.1.2.2.1 h
    have hxS:b1 ∉ S:=by rw[←hS];exact HXB.out
    have HSS:=hid hS;clear hS;have hcl:=NW.out.cl;unfold clQ at hcl;have k14:=cell_got hcl 12;have z14:=frozen_got hcl 12;have lc:=got_lt hcl;have q0:=cell_got BX.out 0;have q1:=cell_got BX.out 1;have q6:=cell_got BX.out 10;have q7:=cell_got BX.out 11;have lx:=got_lt BX.out;have HL:Hid ((ps.map (·.1)).length=k):=hid (by rw[List.length_map];exact hpl);have hkb:k+1≤12:=by omega
    have HLT:=hid hlt;clear hcl hlt;go_upto_region 8 with (fail)
    refine wp_region_calm2 [0,1,2,3,4,6,7,9,10,11,12,13,14,15] [20,21,22] (OnlyC S wr) (by kernel_rfl) (by kernel_rfl) ?_;simp only[pick,List.map_cons,List.map_nil,List.getD_cons_succ,List.getD_cons_zero];iterate 14 (refine wpCalm_step (fun K hK=>?_);go_simp;refine hK _ ?_;clear hK K)
    refine wpCalm_nil ?_;refine Rest.by (X:=Nat × Nat × Nat × Nat × Nat × Nat) (fun y a=>(((((((a.put (some 42) (.pointer (some ⟨y.1,0,none⟩))).put (some 45) (.pointer (some ⟨y.2.1,0,none⟩))).put (some 53) (.agg #[.pointer (some ⟨y.1,0,none⟩),.pointer (some ⟨y.2.1,0,none⟩),.int .i64 0,.int .i64 mn,.int .i64 mn,.int .i64 mx,.int .i64 0,.int .i64 0,.bool false,.int .i64 0,.int .i64 0,.int .i64 0,.int .i64 0,.int .i64 0,.int .i64 0,.int .u32 0,.int .u32 0,.int .u32 0,.int .u64 0,.int .u64 0,.int .u64 0,.int .u64 0,.int .i64 0,.int .i64 0,.int .i64 0,.int .u32 0,.bool false,.int .i64 0,.int .i64 0,.int .i64 0])).put (some 54) (.pointer (some ⟨y.2.2.1,0,none⟩))).put (some 55) (.slice (some ⟨y.2.2.2.1,0,none⟩) 1 1)).put (some 56) (.slice (some ⟨y.2.2.2.2.1,0,none⟩) ((ps.map (·.1)).length+1) y.2.2.2.2.2)).put (some 57) (.pointer (some ⟨bc,0,none⟩))).put (some 58) (.pointer (some ⟨bc,12,none⟩))) (fun y w'=>QNwS w ⟨(n:Int),tl,pr,kp,⟨sk,si,sm,sf,sl⟩,ra,mn,mx⟩ raw time bk bv bc w' (ps ++ [(y.2.2.1,y.1,y.2.1)]) (.slice (some ⟨y.2.2.2.2.1,0,none⟩) ((ps.map (·.1)).length+1) y.2.2.2.2.2)∧b1≠y.2.2.2.2.1∧w'.heap[b1]? = some (.cells #[.int .i64 (n:Int),.int .i64 tl,.int .i64 pr,.int .i64 kp,.int .i64 sk,.int .i64 si,.int .i64 sm,.int .i64 sf,.int .i64 sl,.int .i64 ra,.int .i64 mn,.int .i64 mx] 25 (0,0))) ?_ ?_
    rotate_left
    ·have O0:=hid (Only.refl [] wr).drew
     refine wpAnyC_next [5] (by kernel_rfl) (by simp) (.inr (onlyC (O0.out.weak (by simp)))) ?_;simp only[List.mem_cons,List.not_mem_nil,or_false,forall_eq];refine wpOp_one rfl ?_;go_wp2_with fail
     refine (HAN2.out _).mono ?_;rintro e x1 ⟨⟨sa,rfl,han,hsa⟩,ho⟩;have HAN1:Hid (wr.heap.size≤sa):=hid (Nat.le_trans O0.out.size han);have HSA:=hid hsa;replace O0:=hid (O0.out.nil_trans ho);clear ho han hsa;go_wp2;simp only[nrm];refine wpAnyC_next [8] (by kernel_rfl) (by simp) (.inr (onlyC (O0.out.weak (by simp)))) ?_;simp only[List.mem_cons,List.not_mem_nil,or_false,forall_eq];refine wpOp_one rfl ?_;go_wp2_with fail
     refine (HFN.out _).mono ?_;rintro e x2 ⟨⟨sf0,rfl,hfn,hsf⟩,ho⟩;have HFN1:Hid (wr.heap.size≤sf0):=hid (Nat.le_trans O0.out.size hfn);have HSF:=hid hsf;have HAF:Hid (sa≠sf0):=hid (by have:=HSA.out.lt;omega);replace HSA:=hid (HSA.out.kept ho (by simp));replace O0:=hid (O0.out.nil_trans ho);clear ho hfn hsf;go_wp2;simp only[nrm];refine wpAnyC_next [16] (by kernel_rfl) (by simp) (.inr (onlyC (O0.out.weak (by simp)))) ?_;simp only[List.mem_cons,List.not_mem_nil,or_false,forall_eq];refine wpOp_one rfl ?_;go_wp2;simp only[nrm];refine wpAnyC_next [17] (by kernel_rfl) (by simp) (.inr (onlyC (O0.out.weak (by simp)))) ?_;simp only[List.mem_cons,List.not_mem_nil,or_false,forall_eq];refine wpOp_one rfl ?_;go_wp2;simp only[nrm];refine alloc_abs (G:=fun w0=>wpAnyC _ _ _ _ _ _ _ _ _ w0) ?_;intro x3 hb0 ho0 hz;clear hz;obtain⟨sb,hbc⟩:∃ b,x2.heap.size=b:=⟨_,rfl⟩;rw[hbc] at hb0;rw[hbc];have HSB1:Hid (wr.heap.size≤sb):=hid (by rw[←hbc];exact O0.out.size);have HBA:Hid (sb≠sa):=hid (by have:=HSA.out.lt;omega);have HBF:Hid (sb≠sf0):=hid (by have:=(HSF.out []).lt;omega);replace HSA:=hid (HSA.out.kept ho0 (by simp));replace HSF:=hid (fun M=>(HSF.out M).kept ho0 (by simp) (by simp));replace O0:=hid (O0.out.nil_trans ho0);have HSB:Hid (QSrB x3 sb sa sf0 (sr0 ⟨(n:Int),tl,pr,kp,⟨sk,si,sm,sf,sl⟩,ra,mn,mx⟩)):=hid hb0;clear hb0 ho0 hbc;refine wpAnyC_next [18] (by kernel_rfl) (by simp) (.inr (onlyC (O0.out.weak (by simp)))) ?_;simp only[List.mem_cons,List.not_mem_nil,or_false,forall_eq];refine wpOp_one rfl ?_;go_wp2;simp only[nrm];refine alloc_abs (G:=fun w0=>wpAnyC _ _ _ _ _ _ _ _ _ w0) ?_;intro x4 hb0 ho0 hz;clear hz;obtain⟨ad,hbc⟩:∃ b,x3.heap.size=b:=⟨_,rfl⟩;rw[hbc] at hb0;rw[hbc];replace HSA:=hid (HSA.out.kept ho0 (by simp));replace HSF:=hid (fun M=>(HSF.out M).kept ho0 (by simp) (by simp));replace HSB:Hid (QSrB x4 sb sa sf0 (sr0 ⟨(n:Int),tl,pr,kp,⟨sk,si,sm,sf,sl⟩,ra,mn,mx⟩)):=hid (ho0.got HSB.out (by simp));replace O0:=hid (O0.out.nil_trans ho0);have HAD:=hid hb0;clear hb0 ho0 hbc;refine wpAnyC_next [19] (by kernel_rfl) (by simp) (.inr (onlyC (O0.out.weak (by simp)))) ?_;simp only[List.mem_cons,List.not_mem_nil,or_false,forall_eq];refine wpOp_one rfl ?_;refine wpList_append_B (B:=w.heap.size) rfl _ _ 84 rfl 87 (.pointer none) 1 8 Tryz.underlying84 (by kernel_rfl) rfl (by decide) ptrC_len ptrC_one (ps.map (·.1)) v rfl (NW.out.own.kept O0.out) ad sb rfl (fun j u hj=>by rw[cell_got HAD.out,←hj];simp[ptrC]) (by rw[HL.out];simp[maxLen];omega) (by rw[HL.out];omega) (Nat.le_trans NW.out.only.size O0.out.size) ?_;intro g' cap' x5 hown ho5 hg;have NX:=hid (NW.out.push O0.out HSB.out HSA.out HSF.out HSB1.out HAN1.out HFN1.out HBA.out HBF.out HAF.out hown ho5 hg)
     have HB1G:Hid (b1≠g'):=hid (by
      rcases hg with hg|hg
      ·intro e;exact HXB.out (by rw[hg,←e];simp)
      ·have h1:=got_lt (O0.out.got BX.out (by simp));omega)
     rw[HSS.out] at ho5;have hcl5:=ho5.got (O0.out.got NW.out.cl (by simp)) hbS;unfold clQ at hcl5;have BX5:=hid (ho5.got (O0.out.got BX.out (by simp)) hxS);have HC5:=hid (onlyC ((O0.out.weak (S':=S) (by simp)).trans ho5 (fun x hx=>.inl hx)));clear hown ho5 hg k14 z14 lc q1 q6 q7 lx;have y14:=cell_got hcl5 12;have f14:=frozen_got hcl5 12;have lc5:=got_lt hcl5;go_wp2;simp only[nrm];refine wpAnyC_next [20] (by kernel_rfl) (by simp) (.inr HC5.out) ?_;simp only[List.mem_cons,List.not_mem_nil,or_false,forall_eq];refine wpOp_one rfl ?_;go_wp2;simp only[nrm];refine wpAnyC_next [21] (by kernel_rfl) (by simp) (.inr HC5.out) ?_;simp only[List.mem_cons,List.not_mem_nil,or_false,forall_eq];refine wpOp_one rfl ?_;go_wp2;simp only[nrm];refine wpAnyC_next [22] (by kernel_rfl) (by simp) (.inr HC5.out) ?_;simp only[List.mem_cons,List.not_mem_nil,or_false,forall_eq];refine wpOp_one rfl ?_;go_wp2;simp only[nrm];exact wpAnyC_done (by kernel_rfl) (.inl (late_of (by kernel_rfl))) ⟨sa,sf0,sb,ad,g',cap',by simp,(by have:=NX.out;rw[HL.out] at this;exact this),HB1G.out,setCell_oth _ BX5.out HBC1.out⟩
    rintro⟨sa,sf0,sb,ad,g',cap'⟩ w5 ⟨hnw,hgb,hbx⟩;dsimp only at hnw hgb hbx;simp only[Act.put,List.setIfInBounds_toArray,List.set_cons_succ,List.set_cons_zero];have NX:=hid hnw;have HGB:=hid hgb;have BY:=hid hbx;clear hnw hgb hbx k14 z14 lc q1 q6 q7 lx;go_wp2;go_roundw
    case rel=>exact⟨k+1,_,_,by have:=HLT.out;omega,by go_num,by rw[List.length_append,hpl];rfl,NX.out,by simpa [Value.ownBlock] using HGB.out,NX.out.only,BY.out⟩
    case measure=>first|(simp[intOf];done)|(have:=HLT.out;simp[intOf];omega)
   ·obtain rfl:k=n:=by omega
    obtain⟨P,rfl,hP,hPl⟩:=NW.out.done (by omega) (by rw[hpl];simp);have HP:=hid (And.intro hP hPl);clear hP hPl hlt;have q0:=cell_got BX.out 0;have lx:=got_lt BX.out;go_wp2;go_ret
    exact⟨.inr ⟨HB.out,P,rfl,HP.out.1,HP.out.2⟩,OW.out⟩
theorem qClNewNo (c:Cf) (raw time:Int) (hc:ccheck c≠0) (w:World) :
  Calls Tryz.prog 9 #[cfV c,.int .i64 raw,.int .i64 time] w fun e w'=>e=.returned (.pointer none)∧Only [] w w':=by
 have HK:=hid (qCCheck c);have HCN:=hid (fun w'=>qCNew raw time w');generalize ccheck c=er at hc HK;obtain⟨sr,tl,pr,kp,⟨sk,si,sm,sf,sl⟩,ra,mn,mx⟩:=c;unfold cfV at HK ⊢;dsimp only at HK ⊢;obtain⟨wo,hwo⟩:∃ wo:World,wo=w:=⟨_,rfl⟩;subst hwo;have m:=mm0 wo [];have k:=m.out.k;go_enter Tryz.func9,Tryz.ntmps9
 go_wp2_with ((with_reducible first|refine cU ?_|refine wU ?_);clear k m;intro w m k)
 refine (HCN.out _).mono ?_;rintro e w2 ⟨hr,ho⟩;have hcn:∃ v,e=.returned (.pointer v):=by rcases hr with ⟨_,h⟩|⟨_,b,h,_⟩<;>exact⟨_,h⟩
 obtain⟨cv,rfl⟩:=hcn;have h4:=ho.got (gB (w:=w) (b:=wo.heap.size)) (by simp);have O2:=hid (m.out.only.nil_trans ho);have HFIN:=hid (fun w' (o:Only [] w2 w')=>O2.out.nil_trans o);clear hr ho k m;have m:=mmR h4;have k:=m.out.k;clear h4;go_wp2_with (first|((with_reducible first|refine cU ?_|refine cM (HK.out _) ?_|refine wU ?_);clear k m;intro w m k)|((with_reducible refine lE (fun w o g k K hK=>⟨rfl,?_⟩));simp[results,Tryz.results9,go_sem];refine hK _ ?_;exact⟨rfl,HFIN.out w o⟩))
end
end Go.Proofs.YtedgpfgccpnjnaaGreat
