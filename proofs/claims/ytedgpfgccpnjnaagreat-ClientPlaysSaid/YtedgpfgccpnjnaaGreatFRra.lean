/- Rra Rrb Rrc -/
import Derived.Test.YtedgpfgccpnjnaaGreatFRr7
import Derived.Test.YtedgpfgccpnjnaaGreatFRp1
import Derived.Test.YtedgpfgccpnjnaaGreatFRr1
import Derived.Test.YtedgpfgccpnjnaaGreatFV7
namespace Go.Proofs.YtedgpfgccpnjnaaGreat
section
open Go.Lib (hid)
set_option maxRecDepth 100000
set_option maxHeartbeats 4000000
open Go.RowKit Go.Sort
theorem qApart (a b:Int) (a0: -9007199254740992≤a) (a1:a≤9007199254740992) (b0: -9007199254740992≤b) (b1:b≤9007199254740992) (w:World) :
  Calls Tryz.prog 159 #[.int .i64 a,.int .i64 b] w fun e w'=>e=.returned (.int .i64 (min ((a-b).natAbs:Int) 1073741824))∧Only [] w w':=by
 have hm:min (max (a-b) (b-a)) 1073741824=min ((a-b).natAbs:Int) 1073741824:=by omega
 have r1:IntKind.i64.wrap (a-b)=a-b:=by rw[IntKind.wrap_i64];omega
 have r2:IntKind.i64.wrap (b-a)=b-a:=by rw[IntKind.wrap_i64];omega
 clear a0 a1 b0 b1;rw[←hm];clear hm;have m:=mm0 w [];have k:=m.out.k;go_enter Tryz.func159,Tryz.ntmps159
 go_wp2_with (first|((with_reducible refine wU ?_);clear k m;intro w m k)|((with_reducible refine lE (fun w o g k K hK=>⟨rfl,?_⟩));simp[results,Tryz.results159,go_sem];refine hK _ ?_;exact⟨rfl,o⟩))
theorem qRoot (n:Nat) (hn:n<4611686018427387904) (w:World) :
  Calls Tryz.prog 160 #[.int .i64 n] w fun e w'=>e=.returned (.int .i64 (isq n:Nat))∧Only [] w w':=by
 have HE:Hid (isqF n 31 0=isq n):=hid (by
  unfold isq;conv=>rhs;rw[isqF]
  rw[if_neg (by simp;omega)])
 generalize isq n=res at HE ⊢;obtain⟨wo,hwo⟩:∃ wo:World,wo=w:=⟨_,rfl⟩;subst hwo;go_enter Tryz.func160,Tryz.ntmps160
 go_wp2_with fail
 go_loopw [3,4] (fun vr vk wr=>∃ (j r:Nat),j≤31∧vk=.int .i64 ((j:Int)-1)∧vr=.int .i64 r∧isqF n j r=res∧r+2 ^ j≤2147483648∧Only [] wo wr) (fun _ vk _=>(intOf vk+1).toNat)
 case atStart=>exact⟨31,0,Nat.le_refl _,rfl,rfl,HE.out,by decide,Only.refl _ _⟩
 case round =>
  obtain⟨j,r,hj,rfl,rfl,hq,hb,ho⟩:=hrel;rcases j with _|j
  ·have d0:decide ((0:Int)≤((0:Nat):Int)-1)=false:=by decide
   obtain rfl:r=res:=hq;have m:=mm0 wr [];have k:=m.out.k;go_wp2_with (first|((with_reducible refine rG (id:=5) [0,1,2,3,4,5,6,7,8,9,10] [] (by kernel_rfl) (by kernel_rfl) ?_);simp only[pick,List.map_cons,List.map_nil,List.getD_cons_succ,List.getD_cons_zero];(repeat' (first|go_big_quiet_step (fail)|(refine wpQuiet_step (fun K hK=>?_);go_simp;(first|(refine hK _ ?_;clear hK K)|(split<;>(refine hK _ ?_;clear hK K))))));all_goals (refine wpQuiet_nil ?_;clear k m;intro w m k))|((with_reducible refine wU ?_);clear k m;intro w m k)|((with_reducible refine lE (fun w o g k K hK=>⟨rfl,?_⟩));simp[results,Tryz.results160,go_sem];refine hK _ ?_;exact⟨rfl,ho.nil_trans o⟩))
  ·have d0:decide ((0:Int)≤((j+1:Nat):Int)-1)=true:=by rw[decide_eq_true_eq];omega
   obtain⟨p,hp⟩:∃ p:Nat,2 ^ j=p:=⟨_,rfl⟩;have hpi:((2:Int) ^ j)=(p:Int):=by rw[←hp];simp
   rw[Nat.pow_succ,hp] at hb;rw[isqF,hp] at hq;have hsq:(r+p)*(r+p)≤4611686018427387904:=Nat.le_trans (Nat.mul_le_mul (show r+p≤2147483648 by omega) (show r+p≤2147483648 by omega)) (by decide);have r1:wrap64 ((2:Int) ^ j)=(p:Int):=by rw[hpi];unfold wrap64;omega
   have r2:wrap64 ((r:Int)+(p:Int))=((r+p:Nat):Int):=by unfold wrap64;omega
   obtain⟨q,hqq⟩:∃ q:Nat,(r+p)*(r+p)=q:=⟨_,rfl⟩;have r3:wrap64 (((r+p:Nat):Int)*((r+p:Nat):Int))=(q:Int):=by rw[←Int.natCast_mul,hqq];unfold wrap64;omega
   have r4:wrap64 (((r:Int)+(p:Int))*((r:Int)+(p:Int)))=(q:Int):=by rw[←Int.natCast_add];exact r3
   rw[hqq] at hq hsq;have HP:=hid hp;have HQ:=hid hq;have HB:=hid hb;have HO:=hid ho;clear hp hpi hq hb ho hqq hsq;by_cases hle:q≤n
   ·have d1:decide ((q:Int)≤(n:Int))=true:=decide_eq_true (by omega)
    have m:=mm0 wr [];have k:=m.out.k;go_wp2_with (first|((with_reducible refine rG (id:=5) [0,1,2,3,4,5,6,7,8,9,10] [] (by kernel_rfl) (by kernel_rfl) ?_);simp only[pick,List.map_cons,List.map_nil,List.getD_cons_succ,List.getD_cons_zero];(repeat' (first|go_big_quiet_step (fail)|(refine wpQuiet_step (fun K hK=>?_);go_simp;(first|(refine hK _ ?_;clear hK K)|(split<;>(refine hK _ ?_;clear hK K))))));all_goals (refine wpQuiet_nil ?_;clear k m;intro w m k))|((with_reducible refine wU ?_);clear k m;intro w m k)|(go_roundw;(case rel=>exact⟨j,r+p,by omega,by go_num,(by first|rw[r2]|simp),(by have:=HQ.out;rwa [if_pos hle] at this),(by have:=HB.out;rw[HP.out];omega),HO.out.nil_trans gO⟩);(case measure=>first|(simp[intOf];done)|(simp[intOf];omega))))
   ·have d1:decide ((q:Int)≤(n:Int))=false:=decide_eq_false (by omega)
    have m:=mm0 wr [];have k:=m.out.k;go_wp2_with (first|((with_reducible refine rG (id:=5) [0,1,2,3,4,5,6,7,8,9,10] [] (by kernel_rfl) (by kernel_rfl) ?_);simp only[pick,List.map_cons,List.map_nil,List.getD_cons_succ,List.getD_cons_zero];(repeat' (first|go_big_quiet_step (fail)|(refine wpQuiet_step (fun K hK=>?_);go_simp;(first|(refine hK _ ?_;clear hK K)|(split<;>(refine hK _ ?_;clear hK K))))));all_goals (refine wpQuiet_nil ?_;clear k m;intro w m k))|((with_reducible refine wU ?_);clear k m;intro w m k)|(go_roundw;(case rel=>exact⟨j,r,by omega,by go_num,rfl,(by have:=HQ.out;rwa [if_neg hle] at this),(by have:=HB.out;rw[HP.out];omega),HO.out.nil_trans gO⟩);(case measure=>first|(simp[intOf];done)|(simp[intOf];omega))))
theorem qRootU (n:Nat) (hn:n<4611686018427387904) (w:World) :
  Calls Tryz.prog 265 #[.int .u64 n] w fun e w'=>e=.returned (.int .i64 (isq n:Nat))∧Only [] w w':=by
 have HE:Hid (isqF n 31 0=isq n):=hid (by
  unfold isq;conv=>rhs;rw[isqF]
  rw[if_neg (by simp;omega)])
 generalize isq n=res at HE ⊢;obtain⟨wo,hwo⟩:∃ wo:World,wo=w:=⟨_,rfl⟩;subst hwo;go_enter Tryz.func265,Tryz.ntmps265
 go_wp2_with fail
 go_loopw [3,4] (fun vr vk wr=>∃ (j r:Nat),j≤31∧vk=.int .i64 ((j:Int)-1)∧vr=.int .u64 r∧isqF n j r=res∧r+2 ^ j≤2147483648∧Only [] wo wr) (fun _ vk _=>(intOf vk+1).toNat)
 case atStart=>exact⟨31,0,Nat.le_refl _,rfl,rfl,HE.out,by decide,Only.refl _ _⟩
 case round =>
  obtain⟨j,r,hj,rfl,rfl,hq,hb,ho⟩:=hrel;rcases j with _|j
  ·have d0:decide ((0:Int)≤((0:Nat):Int)-1)=false:=by decide
   obtain rfl:r=res:=hq;have m:=mm0 wr [];have k:=m.out.k;go_wp2_with (first|((with_reducible refine wU ?_);clear k m;intro w m k)|((with_reducible refine lE (fun w o g k K hK=>⟨rfl,?_⟩));simp[results,Tryz.results265,go_sem];refine hK _ ?_;exact⟨rfl,ho.nil_trans o⟩))
  ·have d0:decide ((0:Int)≤((j+1:Nat):Int)-1)=true:=by rw[decide_eq_true_eq];omega
   obtain⟨p,hp⟩:∃ p:Nat,2 ^ j=p:=⟨_,rfl⟩;have hpi:((2:Int) ^ j)=(p:Int):=by rw[←hp];simp
   rw[Nat.pow_succ,hp] at hb;rw[isqF,hp] at hq;have hsq:(r+p)*(r+p)≤4611686018427387904:=Nat.le_trans (Nat.mul_le_mul (show r+p≤2147483648 by omega) (show r+p≤2147483648 by omega)) (by decide);have r1:IntKind.u64.wrap ((2:Int) ^ j)=(p:Int):=by rw[hpi,IntKind.wrap_u64];omega
   have r2:IntKind.u64.wrap ((r:Int)+(p:Int))=((r+p:Nat):Int):=by rw[IntKind.wrap_u64];omega
   obtain⟨q,hqq⟩:∃ q:Nat,(r+p)*(r+p)=q:=⟨_,rfl⟩;have r3:IntKind.u64.wrap (((r+p:Nat):Int)*((r+p:Nat):Int))=(q:Int):=by rw[←Int.natCast_mul,hqq,IntKind.wrap_u64];omega
   have r4:IntKind.u64.wrap (((r:Int)+(p:Int))*((r:Int)+(p:Int)))=(q:Int):=by rw[←Int.natCast_add];exact r3
   rw[hqq] at hq hsq;have HP:=hid hp;have HQ:=hid hq;have HB:=hid hb;have HO:=hid ho;clear hp hpi hq hb ho hqq hsq;by_cases hle:q≤n
   ·have d1:decide ((q:Int)≤(n:Int))=true:=decide_eq_true (by omega)
    have m:=mm0 wr [];have k:=m.out.k;go_wp2_with (first|((with_reducible refine wU ?_);clear k m;intro w m k)|(go_roundw;(case rel=>exact⟨j,r+p,by omega,by go_num,(by first|rw[r2]|simp),(by have:=HQ.out;rwa [if_pos hle] at this),(by have:=HB.out;rw[HP.out];omega),HO.out.nil_trans gO⟩);(case measure=>first|(simp[intOf];done)|(simp[intOf];omega))))
   ·have d1:decide ((q:Int)≤(n:Int))=false:=decide_eq_false (by omega)
    have m:=mm0 wr [];have k:=m.out.k;go_wp2_with (first|((with_reducible refine wU ?_);clear k m;intro w m k)|(go_roundw;(case rel=>exact⟨j,r,by omega,by go_num,rfl,(by have:=HQ.out;rwa [if_neg hle] at this),(by have:=HB.out;rw[HP.out];omega),HO.out.nil_trans gO⟩);(case measure=>first|(simp[intOf];done)|(simp[intOf];omega))))
end
section
open Go.Lib (hid)
set_option maxRecDepth 100000
set_option maxHeartbeats 16000000
open Go.RowKit Go.Sort
theorem qFJitter {M:List Nat} {w:World} {b:Nat} {f:Fl} (hf:QFlAt M w b f) (hri:Ris f.l) (h8:f.l.length≤8) (hok:∀ s∈f.l,schk s=0)  :
  Calls Tryz.prog 81 #[.pointer (some ⟨b,0,none⟩)] w fun e w'=>e=.returned (.int .i64 (jtS f.l))∧Only [] w w':=by
 have HO:=hid (fun w' (o:Only [] w w')=>qFOrder (hf.kept o (by simp) (by simp)) hri h8);have hpm:=ordS_perm f.l;obtain⟨p,cap,an,fr,hF,hV,hp⟩:=hf;obtain⟨tol,l⟩:=f;dsimp only at hF hV h8 hri ⊢;dsimp only at hok HO hpm;obtain⟨res,HE⟩:∃ zz,Hid (jtS l=zz):=⟨_,hid rfl⟩;rw[HE.out];unfold jtS at HE;clear hV hp hri;by_cases h2:l.length<2
 ·have q1:decide ((l.length:Int)<2)=true:=by simp;omega
  rw[if_pos h2] at HE;obtain rfl:=HE.out;have m:=mmR hF;have k:=m.out.k;go_enter Tryz.func81,Tryz.ntmps81
  go_wp2_with (first|((with_reducible refine rG (id:=8) [0,1,2,3,4,5,6,7,8,9,10] [] (by kernel_rfl) (by kernel_rfl) ?_);simp only[pick,List.map_cons,List.map_nil,List.getD_cons_succ,List.getD_cons_zero];(repeat' (first|go_big_quiet_step (fail)|(refine wpQuiet_step (fun K hK=>?_);go_simp;(first|(refine hK _ ?_;clear hK K)|(split<;>(refine hK _ ?_;clear hK K))))));all_goals (refine wpQuiet_nil ?_;clear k m;intro w m k))|((with_reducible refine wU ?_);clear k m;intro w m k)|((with_reducible refine lE (fun w o g k K hK=>⟨rfl,?_⟩));simp[results,Tryz.results81,go_sem];refine hK _ ?_;exact⟨rfl,o⟩))
 ·have q1:decide ((l.length:Int)<2)=false:=by simp;omega
  rw[if_neg h2] at HE;have HL:=hid (ordS_perm l).length_eq;have HP:=hid hpm;obtain⟨wo,hwo⟩:∃ wo:World,wo=w:=⟨_,rfl⟩;subst hwo;have m:=mmR hF;have k:=m.out.k;go_enter Tryz.func81,Tryz.ntmps81
  go_wp2_with ((with_reducible first|refine cU ?_|refine wU ?_);clear k m;intro w m k)
  refine (HO.out _ m.out.only).mono ?_;rintro e w2 ⟨⟨v,rfl,hown⟩,ho2⟩;have O2:=hid (m.out.only.nil_trans ho2);have hol:∀ s∈ordS l,schk s=0:=fun s hs=>hok s (HP.out.subset hs);generalize ordS l=l2 at hown HE HL hol;have hln:=HL.out;rw[←hln] at HE;obtain⟨p2,cap2,rfl,hv2⟩:=Own.vrow (enc:=smC) (s:=4) smC_len hown;obtain⟨b2,off,rfl,hb,HC⟩:=hv2.atS (by omega);have HX:=hid HC;have HK:=hid hol;have h02:0<l2.length:=by omega
  have h22:2≤l2.length:=by omega
  have h28:l2.length≤8:=by omega
  have he:l2.headD default=l2[0]'h02:=by cases l2 with|nil=>simp at h02|cons=>rfl
  rw[he] at HE;clear k m HC ho2 hb hpm hok hol h2 h8 q1 HL HP HO hln he hown hv2 hF;go_wp2_with fail
  go_loopw [4,5] (fun vs vi wr=>SjI w2 l2 l2[0].off vs vi wr) (fun _ vi _=>l2.length-(intOf vi).toNat)
  case atStart=>exact⟨0,Nat.zero_le _,rfl,rfl,Only.refl _ _⟩
  case round =>
   obtain⟨j,hk,rfl,rfl,ho⟩:=hrel;have OO:=hid ho;have hsb:=sqS_bd l2[0].off (l2.take j);have hsc:=sqS_bd2 h02 j;rw[List.length_take] at hsb;by_cases hlt:j<l2.length
   ·have HX:=hid (fun w' (o:Only [] wr w')=>And.intro (HX.out j hlt w' (OO.out.nil_trans o)) (HX.out 0 (by omega) w' (OO.out.nil_trans o)))
    simp only[Nat.zero_mul,Nat.add_zero] at HX;have hz:=(schk_ok.1 (HK.out _ (List.getElem_mem hlt))).1;have hy:=(schk_ok.1 (HK.out _ (List.getElem_mem (show 0<l2.length by omega)))).1;have hq:=sqD_bd l2[j].off l2[0].off;have hm:=min_sq l2[j].off l2[0].off;have HA:=hid (fun w'=>qApart l2[j].off l2[0].off (by omega) (by omega) (by omega) (by omega) w');have HS:=hid (show sqS l2[0].off (l2.take (j+1))=sqS l2[0].off (l2.take j)+sqD l2[j].off l2[0].off by rw[take_snoc l2 hlt,sqS_snoc]);generalize l2[0]=y at hy hq hm HS HX HA hsb hsc ⊢;generalize l2[j]=z at hz hq hm HS HX HA ⊢;obtain⟨y1,y2,y3,y4⟩:=y;obtain⟨z1,z2,z3,z4⟩:=z;dsimp only at hq hm HS HX HA hsb hsc ⊢;generalize min ((z1-y1).natAbs:Int) 1073741824=d at HA hm;have r2:wrap64 (d*d)=(sqD z1 y1:Int):=by rw[hm];unfold wrap64;omega
    have r3:IntKind.i64.wrap (d*d)=(sqD z1 y1:Int):=by rw[hm,IntKind.wrap_i64];omega
    have r4:IntKind.i64.wrap ((sqS y1 (l2.take j):Int)+(sqD z1 y1:Int))=((sqS y1 (l2.take j)+sqD z1 y1:Nat):Int):=by rw[IntKind.wrap_i64];omega
    rw[←HS.out] at r4;generalize hs2:sqS y1 (l2.take (j+1))=s2 at HS r4;have H2:=hid hs2;clear hs2;generalize sqS y1 (l2.take j)=s1 at HS r4 hsb hsc ⊢;generalize sqD z1 y1=q at r2 r3 r4 hm HS hq;clear hsb hsc hq hy hz hm;have m:=mm0 wr [];have k:=m.out.k;have c:=HX.out wr (Only.refl [] wr);go_wp2_with (first|((with_reducible first|refine cM (HA.out _) ?_|refine wU ?_);clear k m c;intro w m k;have c:=HX.out w m.out.only)|((with_reducible refine rG (id:=8) [0,1,2,3,4,5,6,7,8,9,10] [] (by kernel_rfl) (by kernel_rfl) ?_);simp only[pick,List.map_cons,List.map_nil,List.getD_cons_succ,List.getD_cons_zero];(repeat' (first|go_big_quiet_step (with_reducible first|exact gX (HA.out _))|(refine wpQuiet_step (fun K hK=>?_);go_simp;(first|(refine hK _ ?_;clear hK K)|(split<;>(refine hK _ ?_;clear hK K))))));all_goals (refine wpQuiet_nil ?_;clear k m c;intro w m k;have c:=HX.out w m.out.only))|(go_roundw;(case rel=>exact⟨j+1,by omega,by go_num,by rw[H2.out],OO.out.nil_trans gO⟩);(case measure=>first|(simp[intOf];done)|(simp[intOf];omega))))
   ·obtain rfl:j=l2.length:=by omega
    rw[List.take_length] at hsc;rw[List.take_length];obtain⟨dv,hdv⟩:∃ dv,l2.length-1=dv:=⟨_,rfl⟩;have hdi:(l2.length:Int)-1=(dv:Int):=by omega
    have hd0:((dv:Int) == 0)=false:=by rw[beq_eq_false_iff_ne];omega
    have hd1:¬ (dv:Int)=0:=by omega
    rw[hdv] at HE hsc;have hs0:sqS l2[0].off l2 / dv≤1152921504606846976:=Nat.div_le_of_le_mul hsc;generalize sqS l2[0].off l2=s at hs0 hsc HE ⊢;have hsb2:s≤8070450532247928832:=Nat.le_trans hsc (Nat.mul_le_mul_right _ (show dv≤7 by omega));have e0:(s:Int).tdiv (dv:Int)=((s / dv:Nat):Int):=by rw[Int.tdiv_eq_ediv_of_nonneg (by omega)];simp
    have e1:(s:Int) / (dv:Int)=((s / dv:Nat):Int):=by simp
    have HS:=hid (fun w=>qRoot (s / dv) (by omega) w);generalize s / dv=q at HS e0 e1 HE hs0;have e2:IntKind.i64.wrap (q:Int)=(q:Int):=by rw[IntKind.wrap_i64];omega
    obtain rfl:=HE.out;clear hs0 hsb hsc hsb2;have m:=mm0 wr [];have k:=m.out.k;go_wp2_with (first|((with_reducible first|refine cM (HS.out _) ?_|refine wU ?_);clear k m;intro w m k)|((with_reducible refine lE (fun w o g k K hK=>⟨rfl,?_⟩));simp[results,Tryz.results81,go_sem];refine hK _ ?_;exact⟨rfl,O2.out.nil_trans (OO.out.nil_trans o)⟩))
theorem qFBest {M:List Nat} {w:World} {b:Nat} {f:Fl} (hf:QFlAt M w b f) (hb:b∈M) (hri:Ris f.l) (h8:f.l.length≤8) (now:Int) :
  Calls Tryz.prog 157 #[.pointer (some ⟨b,0,none⟩),.int .i64 now] w fun e w'=>(∃ fr:Bool,e=.returned (.tuple #[smV (bstS f now).1,.bool fr,.int .i64 (bstS f now).2]))∧QFlAt M w' b f∧Only [b] w w':=by
 have HO:=hid (fun w' (h:QFlAt M w' b f)=>qFOrder h hri h8);have HG:=hid (fun w'=>qSGrow ((ordS f.l).headD default) now f.tol w');have HN:=hid (sgrow_no (s:=(ordS f.l).headD default) (now:=now) (tol:=f.tol));have HL2:=hid (ordS_perm f.l).length_eq;obtain⟨res,HE⟩:∃ zz,Hid (bstS f now=zz):=⟨_,hid rfl⟩;rw[HE.out];unfold bstS at HE;obtain⟨p,cap,an,fr,hF,hV,hp⟩:=hf;have HQ:=hid (fun w' (o:Only [b] w w') x y (h:w'.heap[b]? = some (.cells #[.int .i64 f.tol,.slice p f.l.length cap,.bool x,.int .i64 y] 135 (0,0)))=>show QFlAt M w' b f from ⟨p,cap,x,y,h,hV.kept' o (fun a ha hm=>(hp a ha).1 (by rw[List.mem_singleton.1 hm];exact hb)),fun a ha=>⟨(hp a ha).1,Nat.lt_of_lt_of_le (hp a ha).2 o.size⟩⟩);obtain⟨tol,l⟩:=f;dsimp only at hF hV h8 hri HE HQ HL2 HG HN;obtain⟨nl,hnl⟩:∃ n,l.length=n:=⟨_,rfl⟩;rw[hnl] at hF hV HL2 HE;simp only[hnl] at HQ;have HPB:=hid hp;rcases nl with _|n
 ·rw[if_pos rfl] at HE
  obtain rfl:=HE.out;clear hnl HE HG HN;have m:=mm1 hF;have k:=m.out.k;clear hF hV hp;go_enter Tryz.func157,Tryz.ntmps157
  go_wp2_with (first|((with_reducible refine rG (id:=5) [0,1,2,3,4,5,6,7,8,9,10,11,12,13,14,15] [] (by kernel_rfl) (by kernel_rfl) ?_);simp only[pick,List.map_cons,List.map_nil,List.getD_cons_succ,List.getD_cons_zero];(repeat' (first|go_big_quiet_step (fail)|(refine wpQuiet_step (fun K hK=>?_);go_simp;(first|(refine hK _ ?_;clear hK K)|(split<;>(refine hK _ ?_;clear hK K))))));all_goals (refine wpQuiet_nil ?_;clear k m;intro w m k))|((with_reducible refine rG (id:=11) [0,1,2,3,4,5,6,7,8,9,10,11,12,13,14] [] (by kernel_rfl) (by kernel_rfl) ?_);simp only[pick,List.map_cons,List.map_nil,List.getD_cons_succ,List.getD_cons_zero];(repeat' (first|go_big_quiet_step (fail)|(refine wpQuiet_step (fun K hK=>?_);go_simp;(first|(refine hK _ ?_;clear hK K)|(split<;>(refine hK _ ?_;clear hK K))))));all_goals (refine wpQuiet_nil ?_;clear k m;intro w m k))|((with_reducible refine wU ?_);clear k m;intro w m k)|((with_reducible refine lE (fun w o g k K hK=>⟨rfl,?_⟩));simp[results,Tryz.results157,go_sem,k];refine hK _ ?_;exact⟨⟨_,rfl⟩,HQ.out w o _ _ (Has.h w g),o⟩))
 ·rw [if_neg (by omega)] at HE
  have hlt:n<l.length:=by omega
  obtain⟨b2,off,rfl,hb2,-⟩:=hV.atS (by omega);have HX:=hid (fun w' (o:Only [b] w w')=>(hV.kept' o (fun a ha hm=>(HPB.out a ha).1 (by rw[List.mem_singleton.1 hm];exact hb))).at1 hlt)
  have he:erlS l now=decide (now<l[n].tat):=by
   unfold erlS;rw[List.getLast?_eq_getElem?,hnl,show n+1-1=n from rfl,List.getElem?_eq_getElem hlt]
  rw[he] at HE;generalize l[n]=x at HX HE;obtain⟨x1,x2,x3,x4⟩:=x;dsimp only at HX HE;have q1:IntKind.i64.wrap (((n+1:Nat):Int)-1)=(n:Int):=by rw[IntKind.wrap_i64];omega
  have q3:IntKind.i64.wrap (((n:Int)+1)-1)=(n:Int):=by rw[IntKind.wrap_i64];omega
  have q6:wrap64 (n:Int)=(n:Int):=by unfold wrap64;omega
  have q2:(n:Int)<(n:Int)+1:=by omega
  have q4:¬ ((n:Int)+1=0):=by omega
  have hbw:=got_lt hF;obtain⟨wo,hwo⟩:∃ wo:World,wo=w:=⟨_,rfl⟩;subst hwo;by_cases ht:now<x4
  ·have dt:decide (now<x4)=true:=decide_eq_true ht
   rw[if_pos dt] at HE;obtain rfl:=HE.out;clear hnl HE he hlt hV hp hb2;have m:=mm1 hF;have k:=m.out.k;clear hF;have c:=HX.out wo (Only.refl [b] wo);go_enter Tryz.func157,Tryz.ntmps157
   go_wp2_with (first|((with_reducible refine rG (id:=5) [0,1,2,3,4,5,6,7,8,9,10,11,12,13,14,15] [] (by kernel_rfl) (by kernel_rfl) ?_);simp only[pick,List.map_cons,List.map_nil,List.getD_cons_succ,List.getD_cons_zero];(repeat' (first|go_big_quiet_step (fail)|(refine wpQuiet_step (fun K hK=>?_);go_simp;(first|(refine hK _ ?_;clear hK K)|(split<;>(refine hK _ ?_;clear hK K))))));all_goals (refine wpQuiet_nil ?_;clear k m c;intro w m k;have c:=HX.out w m.out.only))|((with_reducible refine rG (id:=11) [0,1,2,3,4,5,6,7,8,9,10,11,12,13,14] [] (by kernel_rfl) (by kernel_rfl) ?_);simp only[pick,List.map_cons,List.map_nil,List.getD_cons_succ,List.getD_cons_zero];(repeat' (first|go_big_quiet_step (fail)|(refine wpQuiet_step (fun K hK=>?_);go_simp;(first|(refine hK _ ?_;clear hK K)|(split<;>(refine hK _ ?_;clear hK K))))));all_goals (refine wpQuiet_nil ?_;clear k m c;intro w m k;have c:=HX.out w m.out.only))|((with_reducible refine wU ?_);clear k m c;intro w m k;have c:=HX.out w m.out.only)|((with_reducible refine lE (fun w o g k K hK=>⟨rfl,?_⟩));simp[results,Tryz.results157,go_sem,k];refine hK _ ?_;exact⟨⟨_,rfl⟩,HQ.out w o _ _ (Has.h w g),o⟩))
  ·have dt:decide (now<x4)=false:=decide_eq_false ht
   rw[if_neg (by rw[dt];decide)] at HE;clear hnl he hlt hV hp hb2;have m:=mm1 hF;have k:=m.out.k;clear hF;have c:=HX.out wo (Only.refl [b] wo);go_enter Tryz.func157,Tryz.ntmps157
   go_wp2_with (first|((with_reducible first|refine cU ?_|refine wU ?_);clear k m c;intro w m k;have c:=HX.out w m.out.only)|((with_reducible refine rG (id:=5) [0,1,2,3,4,5,6,7,8,9,10,11,12,13,14,15] [] (by kernel_rfl) (by kernel_rfl) ?_);simp only[pick,List.map_cons,List.map_nil,List.getD_cons_succ,List.getD_cons_zero];(repeat' (first|go_big_quiet_step (fail)|(refine wpQuiet_step (fun K hK=>?_);go_simp;(first|(refine hK _ ?_;clear hK K)|(split<;>(refine hK _ ?_;clear hK K))))));all_goals (refine wpQuiet_nil ?_;clear k m c;intro w m k;have c:=HX.out w m.out.only))|((with_reducible refine rG (id:=11) [0,1,2,3,4,5,6,7,8,9,10,11,12,13,14] [] (by kernel_rfl) (by kernel_rfl) ?_);simp only[pick,List.map_cons,List.map_nil,List.getD_cons_succ,List.getD_cons_zero];(repeat' (first|go_big_quiet_step (fail)|(refine wpQuiet_step (fun K hK=>?_);go_simp;(first|(refine hK _ ?_;clear hK K)|(split<;>(refine hK _ ?_;clear hK K))))));all_goals (refine wpQuiet_nil ?_;clear k m c;intro w m k;have c:=HX.out w m.out.only)))
   refine (HO.out _ (HQ.out _ m.out.only _ _ gB)).mono ?_;rintro e w2 ⟨⟨v,rfl,hown⟩,ho2⟩;have hws:=m.out.only.size;have hlw:=got_lt (gB (w:=w) (b:=wo.heap.size));have M2:=hid (⟨m.out.call ho2⟩:Mm wo [b] w2 _);have hl2:=HL2.out;clear m k c;rcases hown with ⟨-,h⟩|⟨g,cp,rfl,hge,hr⟩
   ·rw[h] at hl2;simp at hl2
   ·have hv2:=hr.vrow smC_len rfl
    rw[hl2] at hv2;have HX2:=hid (fun w' (o:Only [wo.heap.size,b] w2 w')=>(hv2.kept' o (fun a ha=>by cases ha;simp;omega)).at1 (k:=0) (by omega));rw[show (ordS l)[0]'(by omega)=(ordS l).headD default from (headD_get (by omega) _).symm] at HX2;simp only[Nat.zero_mul,Nat.add_zero] at HX2;rw[hl2];generalize (ordS l).headD default=s0 at HX2 HG HE HN;obtain⟨wq,hwq⟩:∃ wq:World,wq=w2:=⟨_,rfl⟩;subst hwq;have HX:=HX2;have m:=M2.out.re;simp only[ownL,if_true] at m;have k:=m.out.k;have c:=HX.out wq (Only.refl _ wq);generalize sgrow s0 now tol=gs at HG HE HN;obtain⟨g1,ge⟩:=gs;obtain⟨s1,s2,s3,s4⟩:=s0;unfold smV at HG;dsimp only at HG HE HN HX c ⊢;obtain rfl:=HE.out;clear HE ho2 hr hge hv2 hl2 hws hlw HL2 HX2 HO;by_cases hge:ge=0
    rotate_left
    focus
     have q5:(ge != 0)=true:=by simpa using hge
     obtain rfl:=HN.out hge;clear HN hge
    rotate_left
    focus
     subst hge;clear HN;obtain⟨g11,g12,g13,g14⟩:=g1;dsimp only at HG ⊢
    rotate_left
    all_goals go_wp2_with (first|((with_reducible first|refine cU ?_|refine wU ?_);clear k m c;intro w m k;have c:=HX.out w m.out.only)|((with_reducible refine rA (id:=8) [0,1,2,3,4,5,6,7,8] [9] 10 [11,12] (by kernel_rfl) (by kernel_rfl) ?_);simp only[pick,List.map_cons,List.map_nil,List.getD_cons_succ,List.getD_cons_zero];(repeat (first|(refine wpCalmG_step (fun K hK=>?_);go_simp;refine hK _ ?_;clear hK K)|(refine cG (by kernel_rfl) ⟨_,_,_,?_,fun w' o=>HG.out w',?_⟩;(focus (intro w;go_simp;done)))));refine wpCalmG_nil ?_;(repeat (refine wpCalm_step (fun K hK=>?_);go_simp;refine hK _ ?_;clear hK K));refine wpCalm_nil ?_;clear k m;intro w o m k;refine wpOp_one rfl ?_;go_wp2;simp only[nrm];refine⟨o.alloc _,tW ?_⟩;clear o;clear k m c;intro w m k;have c:=HX.out w m.out.only;unfold wpTail;refine wpOp_one rfl ?_;go_wp2;simp only[nrm];refine tW ?_;clear k m c;intro w m k;have c:=HX.out w m.out.only;unfold wpTail;refine wpOp_one rfl ?_;go_wp2;simp only[nrm];refine tW ?_;clear k m c;intro w m k;have c:=HX.out w m.out.only;unfold wpTail)|((with_reducible refine rG (id:=5) [0,1,2,3,4,5,6,7,8,9,10,11,12,13,14,15] [] (by kernel_rfl) (by kernel_rfl) ?_);simp only[pick,List.map_cons,List.map_nil,List.getD_cons_succ,List.getD_cons_zero];(repeat' (first|go_big_quiet_step (fail)|(refine wpQuiet_step (fun K hK=>?_);go_simp;(first|(refine hK _ ?_;clear hK K)|(split<;>(refine hK _ ?_;clear hK K))))));all_goals (refine wpQuiet_nil ?_;clear k m c;intro w m k;have c:=HX.out w m.out.only))|((with_reducible refine rG (id:=11) [0,1,2,3,4,5,6,7,8,9,10,11,12,13,14] [] (by kernel_rfl) (by kernel_rfl) ?_);simp only[pick,List.map_cons,List.map_nil,List.getD_cons_succ,List.getD_cons_zero];(repeat' (first|go_big_quiet_step (fail)|(refine wpQuiet_step (fun K hK=>?_);go_simp;(first|(refine hK _ ?_;clear hK K)|(split<;>(refine hK _ ?_;clear hK K))))));all_goals (refine wpQuiet_nil ?_;clear k m c;intro w m k;have c:=HX.out w m.out.only))|((with_reducible refine lE (fun w o g k K hK=>⟨rfl,?_⟩));simp[results,Tryz.results157,go_sem,k];refine hK _ ?_;exact⟨⟨_,rfl⟩,HQ.out w (M2.out.back o) _ _ (Has.h w g),M2.out.back o⟩))
theorem qFSamples {M:List Nat} {w:World} {b:Nat} {f:Fl} (hf:QFlAt M w b f) (h8:f.l.length≤8) :
  Calls Tryz.prog 156 #[.pointer (some ⟨b,0,none⟩)] w fun e w'=>(∃ v,e=.returned v∧Own smC 124 4 w.heap.size w' v f.l)∧Only [] w w':=by
 obtain⟨p,cap,an,fr,hF,hV,-⟩:=hf;obtain⟨tol,l⟩:=f;dsimp only at hF hV h8 ⊢;obtain⟨wo,hwo⟩:∃ wo:World,wo=w:=⟨_,rfl⟩;subst hwo;have m:=mmR hF;have k:=m.out.k;go_enter Tryz.func156,Tryz.ntmps156
 go_wp2_with (at_builtin;refine stop_here ?_)
 have OB:=hid (Only.refl [] wo);have HV:=hid hV;clear k m;refine alloc_abs (G:=fun w0=>Stop (wpList _ _ _ _ _ w0)) ?_;intro w5 hb5 ho5 hs5;refine stop_go ?_;have hb0:=OB.out.size;refine wpList_app rfl _ _ 133 rfl 124 smZ 4 32 Tryz.underlying133 sm_info rfl (by decide) smC smC_len (fun c=>smC_one c) wo.heap.size (Nat.le_trans hb0 ho5.size) [] _ (by rfl) (.inr ⟨_,0,rfl,hb0,⟨_,hb5,by simp,Nat.le_refl _,Nat.zero_le _,by simp⟩⟩) _ _ _ l (by rfl) (HV.out.kept ho5) (by simp[maxLen];omega) (by simp;omega) ?_;intro v6 w6 hown ho6;have HN:=hid hown;have O6:=hid (OB.out.nil_trans (ho5.trans ho6 (fun x hx=>.inr (by simp[Value.ownBlock] at hx;omega))));clear hb5 ho5 hs5 hown ho6;rw[List.nil_append] at HN;have m:=mm0 w6 [];have k:=m.out.k;go_wp2_with (first|((with_reducible refine wU ?_);clear k m;intro w m k)|((with_reducible refine lE (fun w o g k K hK=>⟨rfl,?_⟩));simp[results,Tryz.results156,go_sem];refine hK _ ?_;exact⟨⟨_,rfl,HN.out.kept o⟩,O6.out.nil_trans o⟩))
end
section
open Go.Lib (hid)
set_option maxRecDepth 100000
set_option maxHeartbeats 8000000
open Go.RowKit Go.Sort
theorem qWthC (n lo hi:Int) (w:World) :
  Calls Tryz.prog 263 #[.int .i64 n,.int .i64 lo,.int .i64 hi] w fun e w'=>e=.returned (.bool (wth n lo hi))∧Only [] w w':=by
 obtain⟨res,HE⟩:∃ zz,Hid (wth n lo hi=zz):=⟨_,hid rfl⟩;rw[HE.out];unfold wth at HE;have m:=mm0 w [];have k:=m.out.k;go_enter Tryz.func263,Tryz.ntmps263
 go_wp2_with (first|((with_reducible refine wU ?_);clear k m;intro w m k)|((with_reducible refine lE (fun w o g k K hK=>⟨rfl,?_⟩));simp[results,Tryz.results263,go_sem];refine hK _ ?_;clear hK K k;rw[←HE.out];(go_tidy;grind)))
theorem qRightC (x:Cd) (w:World) :
  Calls Tryz.prog 215 #[cdV x] w fun e w'=>e=.returned (.bool (okC x))∧Only [] w w':=by
 obtain⟨a,b,c,d,e⟩:=x
 have HE:Hid ((wth a 0 2147483647 && (wth b (-4503599627370496) 4503599627370496 && (wth c 0 9007199254740992 && (wth d 0 9007199254740992 && wth e 1 16))))=okC ⟨a,b,c,d,e⟩):=hid (by
  unfold okC wth;simp only[←Bool.decide_and];congr 1
  apply propext
  omega)
 generalize okC ⟨a,b,c,d,e⟩=res at HE ⊢;have H0:=hid (fun w'=>qWthC a 0 2147483647 w');generalize wth a 0 2147483647=x0 at H0 HE;have H1:=hid (fun w'=>qWthC b (-4503599627370496) 4503599627370496 w');generalize wth b (-4503599627370496) 4503599627370496=x1 at H1 HE;have H2:=hid (fun w'=>qWthC c 0 9007199254740992 w');generalize wth c 0 9007199254740992=x2 at H2 HE;have H3:=hid (fun w'=>qWthC d 0 9007199254740992 w');generalize wth d 0 9007199254740992=x3 at H3 HE;have H4:=hid (fun w'=>qWthC e 1 16 w');generalize wth e 1 16=x4 at H4 HE;unfold cdV;dsimp only;have m:=mm0 w [];have k:=m.out.k;go_enter Tryz.func215,Tryz.ntmps215
 go_wp2_with (first|((with_reducible first|refine cM (H0.out _) ?_|refine cM (H1.out _) ?_|refine cM (H2.out _) ?_|refine cM (H3.out _) ?_|refine cM (H4.out _) ?_|refine wU ?_);clear k m;intro w m k)|((with_reducible refine lE (fun w o g k K hK=>⟨rfl,?_⟩));simp[results,Tryz.results215,go_sem];refine hK _ ?_;clear hK K k;rw[←HE.out];(go_tidy;grind)))
theorem cnt_step {l:List Cd} {k:Nat} (hk:k<l.length) (t:Int):cntV ((l.take (k+1)).map spanC) t=cntV ((l.take k).map spanC) t+if wth t (l[k].off-l[k].dist) (l[k].off+l[k].dist)=true then 1 else 0:=by
 rw[take_snoc l hk,List.map_append,List.map_cons,List.map_nil,cntV_snoc];rfl
theorem cnt_lt {l:List Cd} (k:Nat) (t:Int):cntV ((l.take k).map spanC) t≤k:=by
 have:=cntV_le ((l.take k).map spanC) t;rw[List.length_map,List.length_take] at this;omega
theorem qCnt {w:World} {p:Option Addr} {n cap:Nat} {l:List Cd} (hv:VRow cdC 5 w p n cap l) (hn:n≤48) (hok:∀ c∈l,okC c=true) (t:Int)  :
  Calls Tryz.prog 262 #[.slice p n cap,.int .i64 t] w fun e w'=>e=.returned (.int .i64 (cntV (l.map spanC) t:Nat))∧Only [] w w':=by
 obtain rfl:n=l.length:=hv.len.symm;have HV:=hid hv;have HK:=hid hok;obtain⟨wo,hwo⟩:∃ wo:World,wo=w:=⟨_,rfl⟩;subst hwo;go_enter Tryz.func262,Tryz.ntmps262
 go_wp2_with fail
 go_loopw [5,6] (fun vn vi wr=>∃ k:Nat,k≤l.length∧vi=.int .i64 k∧vn=.int .i64 (cntV ((l.take k).map spanC) t:Nat)∧Only [] wo wr) (fun _ vi _=>l.length-(intOf vi).toNat)
 case atStart=>exact⟨0,Nat.zero_le _,rfl,rfl,Only.refl _ _⟩
 case round =>
  obtain⟨j,hk,rfl,rfl,ho⟩:=hrel;have OO:=hid ho;by_cases hlt:j<l.length
  ·obtain⟨b,off,rfl,-,HC⟩:=HV.out.at (by omega)
   have HX:=hid (fun w' (o:Only [] wr w')=>HC j hlt w' (OO.out.nil_trans o));have HS:=hid (cnt_step hlt t);have hle:=cnt_lt (l:=l) j t;have hb:=okC_bd (HK.out _ (List.getElem_mem hlt));have HLT:=hid hlt;generalize hs2:cntV ((l.take (j+1)).map spanC) t=s2 at HS;have H2:=hid hs2;generalize hs1:cntV ((l.take j).map spanC) t=s1 at HS hle ⊢;clear hs1 hs2;generalize l[j]=x at HX HS hb;obtain⟨x1,x2,x3,x4,x5⟩:=x;simp only[CdF] at HX;dsimp only at HS hb;have HW:=hid (fun w'=>qWthC t (x2-x3) (x2+x3) w');have r1:IntKind.i64.wrap (x2-x3)=x2-x3:=by rw[IntKind.wrap_i64];omega
   have r2:IntKind.i64.wrap (x2+x3)=x2+x3:=by rw[IntKind.wrap_i64];omega
   have r3:IntKind.i64.wrap ((s1:Int)+1)=((s1+1:Nat):Int):=by rw[IntKind.wrap_i64];omega
   have hlt2:(j:Int)<(l.length:Int):=by omega
   generalize wth t (x2-x3) (x2+x3)=bt at HW HS;clear hb hle HC ho hlt
   cases bt
   all_goals simp only[if_true,Bool.false_eq_true,if_false,Nat.add_zero] at HS
   all_goals have m:=mm0 wr [];have k:=m.out.k;have c:=HX.out wr (Only.refl [] wr)
   all_goals go_wp2_with (first|((with_reducible first|refine cM (HW.out _) ?_|refine wU ?_);clear k m c;intro w m k;have c:=HX.out w m.out.only)|((with_reducible refine rG (id:=5) [0,1,2,3,4,5,6,7,8,9,10,11,12,13,14,15,16,17,18,19,20,21,22,23] [] (by kernel_rfl) (by kernel_rfl) ?_);simp only[pick,List.map_cons,List.map_nil,List.getD_cons_succ,List.getD_cons_zero];(repeat' (first|go_big_quiet_step (with_reducible first|exact gX (HW.out _))|(refine wpQuiet_step (fun K hK=>?_);go_simp;(first|(refine hK _ ?_;clear hK K)|(split<;>(refine hK _ ?_;clear hK K))))));all_goals (refine wpQuiet_nil ?_;clear k m c;intro w m k;have c:=HX.out w m.out.only))|(go_roundw;(case rel=>exact⟨j+1,HLT.out,by go_num,(by rw[H2.out,HS.out];first|done|rfl|simp),OO.out.nil_trans gO⟩);(case measure=>first|(simp[intOf];done)|(simp[intOf];omega))))
  ·obtain rfl:j=l.length:=by omega
   rw[List.take_length];have m:=mm0 wr [];have k:=m.out.k;go_wp2_with (first|((with_reducible refine wU ?_);clear k m;intro w m k)|((with_reducible refine lE (fun w o g k K hK=>⟨rfl,?_⟩));simp[results,Tryz.results262,go_sem];refine hK _ ?_;exact⟨rfl,OO.out.nil_trans o⟩))
theorem qCheckC {w:World} {p:Option Addr} {n cap:Nat} {l:List Cd} (hv:VRow cdC 5 w p n cap l) (hn:n≤100000)  :
  Calls Tryz.prog 137 #[.slice p n cap] w fun e w'=>e=.returned (.int .i64 (chkC l))∧Only [] w w':=by
 obtain rfl:n=l.length:=hv.len.symm;have HV:=hid hv;obtain⟨res,HE⟩:∃ zz,Hid (chkC l=zz):=⟨_,hid rfl⟩;rw[HE.out];unfold chkC at HE;obtain⟨wo,hwo⟩:∃ wo:World,wo=w:=⟨_,rfl⟩;subst hwo;by_cases h12:12<l.length
 ·have d0:decide ((12:Int)<(l.length:Int))=true:=decide_eq_true (by omega)
  rw[if_pos h12] at HE;obtain rfl:=HE.out;have m:=mm0 wo [];have k:=m.out.k;go_enter Tryz.func137,Tryz.ntmps137
  go_wp2_with (first|((with_reducible refine rG (id:=11) [0,1,2,3,4,5,6,7,8,9,10] [] (by kernel_rfl) (by kernel_rfl) ?_);simp only[pick,List.map_cons,List.map_nil,List.getD_cons_succ,List.getD_cons_zero];(repeat' (first|go_big_quiet_step (fail)|(refine wpQuiet_step (fun K hK=>?_);go_simp;(first|(refine hK _ ?_;clear hK K)|(split<;>(refine hK _ ?_;clear hK K))))));all_goals (refine wpQuiet_nil ?_;clear k m;intro w m k))|((with_reducible refine wU ?_);clear k m;intro w m k)|((with_reducible refine lE (fun w o g k K hK=>⟨rfl,?_⟩));simp[results,Tryz.results137,go_sem];refine hK _ ?_;exact⟨rfl,o⟩))
 ·have d0:decide ((12:Int)<(l.length:Int))=false:=decide_eq_false (by omega)
  rw[if_neg h12] at HE;go_enter Tryz.func137,Tryz.ntmps137
  go_wp2_with fail
  go_loopw [3] (fun vi wr=>∃ (i:Nat) (s:List Int),i≤l.length∧vi=.int .i64 i∧chkL s (l.drop i)=res∧(∀ x,x∈s↔x∈(l.take i).map Cd.id)∧Only [] wo wr) (fun vi _=>l.length-(intOf vi).toNat)
  case atStart=>exact⟨0,[],Nat.zero_le _,rfl,HE.out,by simp,Only.refl _ _⟩
  case round =>
   obtain⟨i,s,hi,rfl,hch,hs,ho⟩:=hrel;have OO:=hid ho;by_cases hlt:i<l.length
   ·obtain⟨b,off,rfl,-,HC⟩:=HV.out.at (by omega)
    have HCX:=hid (fun q (hq:q<l.length) w' (o:Only [] wr w')=>HC q hq w' (OO.out.nil_trans o));have HX:=hid (HCX.out i hlt);have HR:=hid (fun w'=>qRightC l[i] w');rw[List.drop_eq_getElem_cons hlt,chkL] at hch;have HS:=hid (show ∀ x,x∈l[i].id::s↔x∈(l.take (i+1)).map Cd.id from fun x=>by rw[take_snoc l hlt,List.map_append,List.mem_append,List.mem_cons,hs];simp[or_comm])
    have HIN:=hid (show (∀ q (hq:q<l.length),q<i→l[q].id≠l[i].id)→l[i].id ∉ s from fun h hm=>by
     rw[hs,List.mem_map] at hm;obtain⟨c,hc,he⟩:=hm;obtain⟨q,hq,rfl⟩:=List.mem_iff_getElem.1 hc;rw[List.length_take] at hq;rw[List.getElem_take] at he;exact h q (by omega) (by omega) he)
    have HMEM:=hid (show ∀ q (hq:q<l.length),q<i→l[q].id=l[i].id→l[i].id∈s from fun q hq hqi he=>by
     rw[hs,List.mem_map];exact⟨l[q],List.mem_iff_getElem.2 ⟨q,by rw[List.length_take];omega,by rw[List.getElem_take]⟩,he⟩)
    have hlt2:(i:Int)<(l.length:Int):=by omega
    have HLT:=hid hlt;have HIL:Hid (∀ q,q<i→q<l.length):=hid (fun q h=>Nat.lt_trans h hlt);generalize l[i]=x at HX HR hch HS HIN HMEM;obtain⟨x1,x2,x3,x4,x5⟩:=x;simp only[CdF] at HX;dsimp only at hch HS HIN HMEM;unfold cdV at HR;dsimp only at HR;generalize okC ⟨x1,x2,x3,x4,x5⟩=ok at HR hch;clear HC ho hs;obtain⟨wl,hwl⟩:∃ wl:World,wl=wr:=⟨_,rfl⟩;subst hwl;have m:=mm0 wl [];have k:=m.out.k;have c:=HX.out wl (Only.refl [] wl)
    cases ok
    ·rw[if_neg (by decide)] at hch
     subst hch;go_wp2_with (first|((with_reducible first|refine cM (HR.out _) ?_|refine wU ?_);clear k m c;intro w m k;have c:=HX.out w m.out.only)|((with_reducible refine rG (id:=11) [0,1,2,3,4,5,6,7,8,9,10] [] (by kernel_rfl) (by kernel_rfl) ?_);simp only[pick,List.map_cons,List.map_nil,List.getD_cons_succ,List.getD_cons_zero];(repeat' (first|go_big_quiet_step (fail)|(refine wpQuiet_step (fun K hK=>?_);go_simp;(first|(refine hK _ ?_;clear hK K)|(split<;>(refine hK _ ?_;clear hK K))))));all_goals (refine wpQuiet_nil ?_;clear k m c;intro w m k;have c:=HX.out w m.out.only))|((with_reducible refine lE (fun w o g k K hK=>⟨rfl,?_⟩));simp[results,Tryz.results137,go_sem];refine hK _ ?_;exact⟨rfl,OO.out.nil_trans o⟩))
    ·rw [if_pos rfl] at hch
     go_wp2_with ((with_reducible first|refine cM (HR.out _) ?_|refine wU ?_);clear k m c;intro w m k;have c:=HX.out w m.out.only)
     have OW:=hid m.out.only;obtain⟨wq,hwq⟩:∃ wq:World,wq=w:=⟨_,rfl⟩;subst hwq;clear m k c;go_loopw [4] (fun vk wr=>∃ q:Nat,q≤i∧vk=.int .i64 q∧(∀ q' (hq:q'<l.length),q'<q→l[q'].id≠x1)∧Only [] wq wr) (fun vk _=>i-(intOf vk).toNat)
     case atStart=>exact⟨0,Nat.zero_le _,rfl,fun _ _ h=>absurd h (Nat.not_lt_zero _),Only.refl _ _⟩
     case round =>
      obtain⟨q,hq,rfl,hne,ho2⟩:=hrel;have O2:=hid (OW.out.nil_trans ho2);have O3:=hid ho2;have HNE:=hid hne;by_cases hqi:q<i
      ·have hql:=HIL.out q hqi
       have HY:=hid (HCX.out q hql);have HX2:=HX;have HX:=hid (fun w' (o:Only [] wr w')=>And.intro (HX2.out w' (O2.out.nil_trans o)) (HY.out w' (O2.out.nil_trans o)));have HE1:=hid (fun h=>HMEM.out q hql hqi h);have HE2:=hid (fun (h:¬ l[q].id=x1) q' (hq':q'<l.length) (h2:q'<q+1)=>if e:q'=q then (by subst e;exact h:l[q'].id≠x1) else HNE.out q' hq' (by omega));generalize l[q]=y at HX HE1 HE2 HY;obtain⟨y1,y2,y3,y4,y5⟩:=y;simp only[CdF] at HX;dsimp only at HE1 HE2;have hqi2:(q:Int)<(i:Int):=by omega
       have hql2:(q:Int)<(l.length:Int):=by omega
       have HQI:=hid hqi;clear ho2 hne HNE HX2 HY;by_cases he:y1=x1
       ·rw[if_pos (HE1.out he)] at hch
        subst hch;have d1:(y1 == x1)=true:=by simpa using he
        have m:=mm0 wr [];have k:=m.out.k;have c:=HX.out wr (Only.refl [] wr);clear he HE1 HE2;go_wp2_with (first|((with_reducible refine rG (id:=11) [0,1,2,3,4,5,6,7,8,9,10] [] (by kernel_rfl) (by kernel_rfl) ?_);simp only[pick,List.map_cons,List.map_nil,List.getD_cons_succ,List.getD_cons_zero];(repeat' (first|go_big_quiet_step (fail)|(refine wpQuiet_step (fun K hK=>?_);go_simp;(first|(refine hK _ ?_;clear hK K)|(split<;>(refine hK _ ?_;clear hK K))))));all_goals (refine wpQuiet_nil ?_;clear k m c;intro w m k;have c:=HX.out w m.out.only))|((with_reducible refine wU ?_);clear k m c;intro w m k;have c:=HX.out w m.out.only)|((with_reducible refine lE (fun w o g k K hK=>⟨rfl,?_⟩));simp[results,Tryz.results137,go_sem];refine hK _ ?_;exact⟨rfl,(OO.out.nil_trans O2.out).nil_trans o⟩))
       ·have d1:(y1 == x1)=false:=by simpa using he
        have HE3:=hid (HE2.out he);have m:=mm0 wr [];have k:=m.out.k;have c:=HX.out wr (Only.refl [] wr);clear he HE1 HE2;go_wp2_with (first|((with_reducible refine rG (id:=11) [0,1,2,3,4,5,6,7,8,9,10] [] (by kernel_rfl) (by kernel_rfl) ?_);simp only[pick,List.map_cons,List.map_nil,List.getD_cons_succ,List.getD_cons_zero];(repeat' (first|go_big_quiet_step (fail)|(refine wpQuiet_step (fun K hK=>?_);go_simp;(first|(refine hK _ ?_;clear hK K)|(split<;>(refine hK _ ?_;clear hK K))))));all_goals (refine wpQuiet_nil ?_;clear k m c;intro w m k;have c:=HX.out w m.out.only))|((with_reducible refine wU ?_);clear k m c;intro w m k;have c:=HX.out w m.out.only)|(go_roundw;(case rel=>exact⟨q+1,HQI.out,by go_num,HE3.out,O3.out.nil_trans gO⟩);(case measure=>first|(simp[intOf];done)|(simp[intOf];omega))))
      ·obtain rfl:q=i:=by omega
       rw[if_neg (HIN.out (fun q' hq' h=>HNE.out q' hq' h))] at hch;have HCH:=hid hch;have m:=mm0 wr [];have k:=m.out.k;clear ho2 hne;go_wp2_with (first|((with_reducible refine wU ?_);clear k m;intro w m k)|(go_roundw;(case rel=>exact⟨_,_,Nat.succ_le_of_lt HLT.out,by go_num,HCH.out,HS.out,(OO.out.nil_trans O2.out).nil_trans gO⟩);(case measure=>first|(simp[intOf];done)|(simp[intOf];omega))))
   ·obtain rfl:i=l.length:=by omega
    rw[List.drop_length,chkL] at hch;subst hch;have m:=mm0 wr [];have k:=m.out.k;go_wp2_with (first|((with_reducible refine wU ?_);clear k m;intro w m k)|((with_reducible refine lE (fun w o g k K hK=>⟨rfl,?_⟩));simp[results,Tryz.results137,go_sem];refine hK _ ?_;exact⟨rfl,OO.out.nil_trans o⟩))
end
end Go.Proofs.YtedgpfgccpnjnaaGreat
