/- Rp1 Rp2 Rp3 -/
import Derived.Test.YtedgpfgccpnjnaaGreatFJi
import Derived.Laws.AppendOwnNone
namespace Go.Proofs.YtedgpfgccpnjnaaGreat
section
open Go.RowKit Go.Sort
theorem pw_mem {α:Type} {R:α→α→Prop}:∀ {l:List α},l.Pairwise R→∀ a∈l,∀ b∈l,a=b∨R a b∨R b a
 | [],_,a,h,_,_=>by cases h
 |x::l,hp,a,ha,b,hb=>by
  rw[List.pairwise_cons] at hp;rcases List.mem_cons.1 ha with h1|h1<;>rcases List.mem_cons.1 hb with h2|h2
  ·exact .inl (h1.trans h2.symm)
  ·exact .inr (.inl (h1 ▸ hp.1 b h2))
  ·exact .inr (.inr (h2 ▸ hp.1 a h1))
  ·exact pw_mem hp.2 a h1 b h2
theorem swo_asymm {α:Type} {lt:α→α→Bool} (hS:SWO lt) {x y:α} (h:lt x y=true):lt y x=false:=by
 cases hc:lt y x
 ·rfl
 ·have:=hS.trans x y x h hc
  rw[hS.irrefl] at this;cases this
theorem sorted_eq {α:Type} {lt:α→α→Bool} (hS:SWO lt) {r s:List α} (hp:r.Perm s) (hr:r.Pairwise (fun x y=>lt x y=true)) (hs:s.Pairwise (fun x y=>lt y x=false)):r=s:=by
 refine List.Perm.eq_of_pairwise (le:=fun x y=>lt y x=false) (fun a b ha hb h1 h2=>?_) (hr.imp fun h=>swo_asymm hS h) hs hp;rcases pw_mem hr a ha b (hp.symm.subset hb) with h|h | h
 ·exact h
 ·rw[h] at h2;cases h2
 ·rw[h] at h1;cases h1
theorem ins_sorted {α:Type} [Inhabited α] {lt:α→α→Bool} (hS:SWO lt) (l:List α):(Sort.insertionSort lt l.toArray 0 l.length).toList.Pairwise (fun x y=>lt y x=false):=by
 obtain⟨⟨h1,_,_⟩,h2⟩:=insertionSort_holds (lt:=lt) hS l.toArray 0 l.length (Nat.zero_le _) (by simp);generalize Sort.insertionSort lt l.toArray 0 l.length=d at h1 h2;rw[List.pairwise_iff_getElem];intro i j hi hj hij;have hd:d.size=l.length:=by simpa using h1
 have:=h2 i j (Nat.zero_le _) hij (by simp at hj;omega);simp at hi hj;simpa [hi,hj] using this
theorem ordC_sorted (l:List Cd):(ordC l).Pairwise (fun x y=>ltOf cfC y x=false):=ins_sorted cfC_swo l
theorem ordS_sorted (l:List Smp):(ordS l).Pairwise (fun x y=>ltOf cfS y x=false):=ins_sorted cfS_swo l
theorem cfC_tot {x y:Cd} (h:x.id≠y.id):ltOf cfC x y=true∨ltOf cfC y x=true:=by
 rw[cfC_lt,cfC_lt];simp only[decide_eq_true_eq];omega
theorem ordC_strict {l:List Cd} (hn:(l.map Cd.id).Nodup):(ordC l).Pairwise (fun x y=>ltOf cfC x y=true):=by
 have h1:=ordC_sorted l;have h2:((ordC l).map Cd.id).Nodup:=((ordC_perm l).map Cd.id).nodup_iff.2 hn;rw[List.Nodup,List.pairwise_map] at h2;refine (h1.and h2).imp fun {x y} h=>?_;rcases cfC_tot h.2 with h3|h3
 ·exact h3
 ·rw[h.1] at h3;cases h3
theorem erase_perm {α:Type} {l:List α} {k:Nat} (hk:k<l.length):(l[k]::(l.take k ++ l.drop (k+1))).Perm l:=by
 have h:l=l.take k ++ l[k]::l.drop (k+1):=by simp
 have h2:(l.take k ++ l[k]::l.drop (k+1)).Perm (l[k]::(l.take k ++ l.drop (k+1))):=List.perm_middle;rw[←h] at h2;exact h2.symm
theorem ordC_min {l:List Cd} (hn:(l.map Cd.id).Nodup) {k:Nat} (hk:k<l.length) (hm:∀ j (hj:j<l.length),j≠k→ltOf cfC l[k] l[j]=true):ordC l=l[k]::ordC (l.take k ++ l.drop (k+1)):=by
 have hp:=erase_perm hk
 have hn2:((l.take k ++ l.drop (k+1)).map Cd.id).Nodup:=by
  have:=(hp.map Cd.id).nodup_iff.2 hn;rw[List.map_cons,List.nodup_cons] at this;exact this.2
 symm
 refine sorted_eq cfC_swo ((((ordC_perm _).cons _).trans hp).trans (ordC_perm l).symm) ?_ (ordC_sorted l);rw[List.pairwise_cons];refine⟨fun y hy=>?_,ordC_strict hn2⟩;have hy2:=(ordC_perm _).subset hy;rcases List.mem_append.1 hy2 with h|h
 ·obtain⟨j,hj,rfl⟩:=List.mem_iff_getElem.1 h
  rw[List.length_take] at hj;rw[List.getElem_take];exact hm j (by omega) (by omega)
 ·obtain⟨j,hj,rfl⟩:=List.mem_iff_getElem.1 h
  rw[List.length_drop] at hj;rw[List.getElem_drop];exact hm _ (by omega) (by omega)
theorem ordC_nil:ordC []=[]:=by
 have:=(ordC_perm []).length_eq;exact List.length_eq_zero_iff.1 (by simpa using this)
theorem ordS_nil:ordS []=[]:=by
 have:=(ordS_perm []).length_eq;exact List.length_eq_zero_iff.1 (by simpa using this)
def Ris (l:List Smp):Prop:=l.Pairwise (fun x y=>x.tat<y.tat)
theorem ordS_strict {l:List Smp} (hn:Ris l):(ordS l).Pairwise (fun x y=>ltOf cfS x y=true):=by
 have h1:=ordS_sorted l
 have h2:(ordS l).Pairwise (fun x y=>x.tat≠y.tat):=by
  have h3:l.Pairwise (fun x y=>x.tat≠y.tat):=hn.imp fun h=>by omega
  exact (ordS_perm l).symm.pairwise h3 (fun h=>Ne.symm h)
 refine (h1.and h2).imp fun {x y} h=>?_;have h3:=h.1;have h4:=h.2;rw[cfS_lt] at h3 ⊢;simp only[decide_eq_true_eq,decide_eq_false_iff_not] at h3 ⊢;omega
theorem ordS_put {l:List Smp} {x:Smp} (hn:Ris (l ++ [x])) {k:Nat} (hk:k≤(ordS l).length) (h1:∀ j (hj:j<(ordS l).length),j<k→(ordS l)[j].dly<x.dly) (h2:∀ (h:k<(ordS l).length),x.dly≤(ordS l)[k].dly) :
  ordS (l ++ [x])=(ordS l).take k ++ x::(ordS l).drop k:=by
 have hl:Ris l:=(List.pairwise_append.1 hn).1;have hx:∀ y∈ordS l,y.tat<x.tat:=fun y hy=>(List.pairwise_append.1 hn).2.2 y ((ordS_perm l).subset hy) x (by simp);have hs:=ordS_strict hl;symm
 refine sorted_eq cfS_swo ?_ ?_ (ordS_sorted _)
 ·have a1:((ordS l).take k ++ x::(ordS l).drop k).Perm (x::((ordS l).take k ++ (ordS l).drop k)):=List.perm_middle
  rw[List.take_append_drop] at a1;have a2:(l ++ [x]).Perm (x::l):=List.perm_append_comm;exact (a1.trans ((ordS_perm l).cons x)).trans (a2.symm.trans (ordS_perm _).symm)
 ·have hs2:=hs
  rw[←List.take_append_drop k (ordS l),List.pairwise_append] at hs2;rw[List.pairwise_append,List.pairwise_cons]
  have hb:∀ y∈(ordS l).take k,ltOf cfS y x=true:=fun y hy=>by
   obtain⟨j,hj,rfl⟩:=List.mem_iff_getElem.1 hy;rw[List.length_take] at hj;rw[List.getElem_take,cfS_lt];have:=h1 j (by omega) (by omega);simp only[decide_eq_true_eq];omega
  have ha:∀ y∈(ordS l).drop k,ltOf cfS x y=true:=fun y hy=>by
   obtain⟨j,hj,rfl⟩:=List.mem_iff_getElem.1 hy;rw[List.length_drop] at hj;have hk2:k<(ordS l).length:=by omega
   have h3:=h2 hk2;have h4:=hx _ (List.getElem_mem (show k+j<(ordS l).length by omega));rw[List.getElem_drop,cfS_lt]
   have h5:(ordS l)[k].dly≤((ordS l)[k+j]'(by omega)).dly:=by
    rcases Nat.eq_zero_or_pos j with rfl|hj0
    ·exact Int.le_refl _
    ·have:=List.pairwise_iff_getElem.1 hs k (k+j) hk2 (by omega) (by omega)
     rw[cfS_lt] at this;simp only[decide_eq_true_eq] at this;omega
   simp only[decide_eq_true_eq];omega
  refine⟨hs2.1,⟨ha,hs2.2.1⟩,fun a h3 b h4=>?_⟩;rcases List.mem_cons.1 h4 with rfl|h4
  ·exact hb a h3
  ·exact hs2.2.2 a h3 b h4
theorem sortI_mem {l:List Int} {x:Int}:x∈sortI l↔x∈l:=(List.mergeSort_perm l _).mem_iff
theorem sortI_pw (l:List Int):(sortI l).Pairwise (fun x y=>x≤y):=by
 have:=List.pairwise_mergeSort (le:=fun (x y:Int)=>decide (x≤y)) (by intro a b c;simp;omega) (by intro a b;simp;omega) l;exact this.imp fun h=>by simpa using h
theorem sortI_head {l:List Int} {x:Int} (h1:x∈l) (h2:∀ y∈l,x≤y):(sortI l).head? = some x:=by
 have hp:=sortI_pw l;have hm:=fun x=>sortI_mem (l:=l) (x:=x)
 cases hs:sortI l with
 | nil=>rw[hs] at hm;exact absurd ((hm x).2 h1) (by simp)
 | cons a r =>
  rw[hs] at hp hm;rw[List.pairwise_cons] at hp;have ha:=h2 a ((hm a).1 (by simp));rcases List.mem_cons.1 ((hm x).2 h1) with e|e
  ·rw[e];rfl
  ·have:=hp.1 x e
   rw[List.head?_cons,show a=x by omega]
theorem sortI_last {l:List Int} {x:Int} (h1:x∈l) (h2:∀ y∈l,y≤x):(sortI l).getLast? = some x:=by
 have hp:=sortI_pw l;have hm:=fun x=>sortI_mem (l:=l) (x:=x);rcases List.eq_nil_or_concat (sortI l) with hs|⟨r,a,hs⟩
 ·rw[hs] at hm;exact absurd ((hm x).2 h1) (by simp)
 ·rw[List.concat_eq_append] at hs
  rw[hs] at hp hm;rw[hs,List.getLast?_append];rw[List.pairwise_append] at hp;have ha:=h2 a ((hm a).1 (by simp));rcases List.mem_append.1 ((hm x).2 h1) with e|e
  ·have:=hp.2.2 x e a (by simp)
   simp;omega
  ·simp at e;simp[e]
theorem sortI_none {l:List Int} (h:l=[]):(sortI l).head? = none:=by
 subst h;simp[sortI]
def minO:Option Int→Int→Option Int
 | none,x=>some x
 | some y,x=>some (if x<y then x else y)
def lowO (l:List Int):Option Int:=l.foldl minO none
theorem lowO_snoc (l:List Int) (x:Int):lowO (l ++ [x])=minO (lowO l) x:=by unfold lowO;rw[List.foldl_append];rfl
theorem lowO_spec (l:List Int):match lowO l with
 | none=>l=[]
 | some x=>x∈l∧∀ y∈l,x≤y:=by
 have:∀ r:List Int,match lowO r.reverse with
  | none=>r.reverse=[]
  | some x=>x∈r.reverse∧∀ y∈r.reverse,x≤y:=by
  intro r;induction r with
  | nil=>simp[lowO]
  | cons a r ih =>
   rw[List.reverse_cons,lowO_snoc]
   cases h:lowO r.reverse with
   | none =>
    rw[h] at ih;simp only[minO];rw[ih];simp
   | some b =>
    rw[h] at ih;simp only[minO];obtain⟨i1,i2⟩:=ih;refine⟨?_,fun y hy=>?_⟩
    ·split<;>simp_all
    ·rcases List.mem_append.1 hy with e|e
     ·have:=i2 y e;split<;>omega
     ·simp at e;subst e;split<;>omega
 simpa using this l.reverse
def higF (m:Int) (l:List Int):Int:=l.foldl (fun m x=>max m x) m
theorem higF_snoc (m:Int) (l:List Int) (x:Int):higF m (l ++ [x])=max (higF m l) x:=by unfold higF;rw[List.foldl_append];rfl
theorem higF_spec (m:Int) (l:List Int):m≤higF m l∧(∀ y∈l,y≤higF m l)∧(higF m l=m∨higF m l∈l):=by
 have:∀ r:List Int,m≤higF m r.reverse∧(∀ y∈r.reverse,y≤higF m r.reverse)∧(higF m r.reverse=m∨higF m r.reverse∈r.reverse):=by
  intro r;induction r with
  | nil=>simp[higF]
  | cons a r ih =>
   rw[List.reverse_cons,higF_snoc];obtain⟨i1,i2,i3⟩:=ih;refine⟨by omega,fun y hy=>?_,?_⟩
   ·rcases List.mem_append.1 hy with e|e
    ·have:=i2 y e;omega
    ·simp at e;omega
   ·rcases Int.le_total a (higF m r.reverse) with h|h
    ·rw[Int.max_eq_left h]
     rcases i3 with e|e
     ·exact .inl e
     ·exact .inr (by simp at e ⊢;exact .inl e)
    ·rw[Int.max_eq_right h]
     exact .inr (by simp)
 simpa using this l.reverse
theorem ends_mem {f:Iv→Int} {pk:Int→Bool} {l:List Iv} {t:Int}:t∈endsI f pk l↔∃ x∈l,ivOk x=true∧f x=t∧pk t=true:=by
 unfold endsI;simp only[List.mem_filter,List.mem_map];constructor
 ·rintro⟨⟨x,⟨h1,h2⟩,rfl⟩,h3⟩;exact⟨x,h1,h2,rfl,h3⟩
 ·rintro⟨x,h1,h2,rfl,h3⟩;exact⟨⟨x,⟨h1,h2⟩,rfl⟩,h3⟩
theorem cnt_mono {l:List Iv} {a b:Int} (h:∀ x∈l,hasI x a=true→hasI x b=true):cntI l a≤cntI l b:=by
 unfold cntI;induction l with
 | nil=>exact Nat.le_refl _
 | cons x l ih =>
  have ih':=ih fun y hy=>h y (List.mem_cons_of_mem _ hy);have hx:=h x (List.mem_cons_self ..);rw[List.filter_cons,List.filter_cons];by_cases ha:hasI x a=true
  ·rw[if_pos ha,if_pos (hx ha)];simp;exact ih'
  ·rw[if_neg ha]
   split
   ·simp;omega
   ·exact ih'
theorem hull_end {l:List Iv} {need t:Int} (h1:1≤need) (ht:pkI l need t=true):∃ u∈endsI Iv.hi (pkI l need) l,t≤u:=by
 have ht':need≤(cntI l t:Int):=by simpa [pkI] using ht
 have hne:(l.filter fun x=>hasI x t)≠[]:=fun e=>by
  have:cntI l t=0:=by unfold cntI;rw[e];rfl
  omega
 obtain⟨m,hm⟩:∃ m,lowO ((l.filter fun x=>hasI x t).map Iv.hi)=some m:=by
  have:=lowO_spec ((l.filter fun x=>hasI x t).map Iv.hi)
  cases h:lowO ((l.filter fun x=>hasI x t).map Iv.hi) with
  | none=>rw[h] at this;simp only[List.map_eq_nil_iff] at this;exact absurd this hne
  | some m=>exact⟨m,rfl⟩
 have hs:=lowO_spec ((l.filter fun x=>hasI x t).map Iv.hi);rw[hm] at hs;obtain⟨h2,h3⟩:=hs;obtain⟨x,hx,rfl⟩:=List.mem_map.1 h2;rw[List.mem_filter] at hx;have hx2:=hx.2;unfold hasI at hx2;simp only[Bool.and_eq_true,decide_eq_true_eq] at hx2;refine⟨x.hi,ends_mem.2 ⟨x,hx.1,hx2.1,rfl,?_⟩,hx2.2.2⟩;unfold pkI;rw[decide_eq_true_eq]
 have:cntI l t≤cntI l x.hi:=cnt_mono fun y hy hyt=>by
  have:=h3 y.hi (List.mem_map.2 ⟨y,List.mem_filter.2 ⟨hy,hyt⟩,rfl⟩);unfold hasI at hyt ⊢;simp only[Bool.and_eq_true,decide_eq_true_eq] at hyt ⊢;exact⟨hyt.1,by omega,by omega⟩
 omega
theorem hullI_loops (l:List Iv) (need:Int) (h1:1≤need):hullI l need=match lowO (endsI Iv.lo (pkI l need) l) with
 | none=>none
 | some a=>some ⟨a,higF a (endsI Iv.hi (pkI l need) l)⟩:=by
 unfold hullI;rw[if_neg (by omega)];have hs:=lowO_spec (endsI Iv.lo (pkI l need) l)
 cases h:lowO (endsI Iv.lo (pkI l need) l) with
 | none =>
  rw[h] at hs;rw[sortI_none hs]
 | some a =>
  rw[h] at hs;obtain⟨h2,h3⟩:=hs;rw[sortI_head h2 h3];obtain⟨x,_,_,_,hpk⟩:=ends_mem.1 h2;obtain⟨u,hu,hau⟩:=hull_end h1 hpk;obtain⟨g1,g2,g3⟩:=higF_spec a (endsI Iv.hi (pkI l need) l)
  have hm:higF a (endsI Iv.hi (pkI l need) l)∈endsI Iv.hi (pkI l need) l:=by
   rcases g3 with e|e
   ·have:=g2 u hu
    have:u=higF a (endsI Iv.hi (pkI l need) l):=by omega
    rw[←this];exact hu
   ·exact e
  rw[sortI_last hm g2]
end
section
open Go.RowKit Go.Sort
section
variable {α:Type} {enc:α→List Value} {e:TypeId} {s:Nat}
theorem VRow.kept' {w w':World} {p:Option Addr} {n cap:Nat} {l:List α} {S:List Nat} (h:VRow enc s w p n cap l) (ho:Only S w w') (hS:∀ a,p=some a→a.block ∉ S):VRow enc s w' p n cap l:=by
 refine⟨h.len,h.le,h.cm,h.nil,fun i x hx=>?_⟩;obtain⟨b,off,hp,hb,hc⟩:=h.cell i x hx;exact⟨b,off,hp,Nat.lt_of_lt_of_le hb ho.size,fun j v hv=>by rw[ho.cell hb (hS _ hp)];exact hc j v hv⟩
theorem VRow.drop {w:World} {b off n cap:Nat} {l:List α} (h:VRow enc s w (some ⟨b,off,none⟩) n cap l) (k:Nat) (hk:k≤n):VRow enc s w (some ⟨b,off+k*s,none⟩) (n-k) (cap-k) (l.drop k):=by
 refine⟨by rw[List.length_drop,h.len],by have:=h.le;omega,by have:=h.cm;omega,by simp,fun i x hx=>?_⟩;rw[List.getElem?_drop] at hx;obtain⟨b',off',hp,hb,hc⟩:=h.cell (k+i) x hx;simp only[Option.some.injEq,Addr.mk.injEq,and_true] at hp;obtain⟨rfl,rfl⟩:=hp;exact⟨_,_,rfl,hb,fun j v hv=>by rw[Nat.add_assoc,←Nat.add_assoc (k*s),←Nat.add_mul];exact hc j v hv⟩
theorem VRow.src (hs:∀ x,(enc x).length=s) (hs0:0<s) {w:World} {a:Addr} {n cap:Nat} {l:List α} (h:VRow enc s w (some a) n cap l):∀ j u,(l.flatMap enc)[j]? = some u→w.cell? (a.add j)=some u:=by
 intro j u hj
 have hjl:j<l.length*s:=by
  have:=(List.getElem?_eq_some_iff.1 hj).1;rwa [flat_length enc s hs l] at this
 have hq:j / s<l.length:=Nat.div_lt_of_lt_mul (by rw[Nat.mul_comm];exact hjl);have hd:j / s*s+j % s=j:=by rw[Nat.mul_comm];exact Nat.div_add_mod j s
 have h1:=flat_get enc s hs l (j / s) (j % s) l[j / s] (List.getElem?_eq_getElem hq) (Nat.mod_lt _ hs0);rw[hd,hj] at h1;obtain⟨b,off,hp,hb,hc⟩:=h.cell (j / s) l[j / s] (List.getElem?_eq_getElem hq);simp only[Option.some.injEq] at hp;subst hp;rw[addr_add,←hd];exact hc _ _ h1.symm
theorem wpList_app {P:Program} {w:World} {ops:Array Oper} {rest:List Oper} {o:Oper} {a:Act} {Q:Exit→Act→World→Prop} (hgd:o.guard=none) (sO xO:Operand) (t:TypeId)
  (ho:o.op=.call { callee:=.builtin .append,args:=#[sO,xO],argTypes:=#[t,t] })
  (e:TypeId) (z:Value) (size bytes:Nat) (ht:P.underlying t=some (.slice e)) (hi:(P.info? e).map (fun i=>(i.zero,i.size,i.bytes))=some (some z,size,bytes)) (hzs:z.cells.size=size) (hsz:0<size)
  (enc:α→List Value) (hs:∀ x,(enc x).length=size) (h1c:∀ x,∀ u∈enc x,u.oneCell'=true) (B:Nat) (hB:B≤w.heap.size) (l1:List α) (v:Value) (hv:a.eval sO=v) (hown:Own enc e size B w v l1)
  (p:Option Addr) (n cap:Nat) (l2:List α) (hx:a.eval xO=.slice p n cap) (hsrc:VRow enc size w p n cap l2)
  (hlen:l1.length+n≤maxLen) (hby:(l1.length+n)*bytes≤140737488355328)
  (hK:∀ v' w',Own enc e size B w' v' (l1 ++ l2)→Only v.ownBlock.toList w w'→wpList P ops Q rest (a.put o.dst v') w'):wpList P ops Q (o::rest) a w:=by
 cases hi':P.info? e with
 | none=>rw[hi'] at hi;simp at hi
 | some i =>
  rw[hi'] at hi;simp only[Option.map_some,Option.some.injEq,Prod.mk.injEq] at hi;obtain⟨z1,z2,z3⟩:=hi
  have hblk:w.ownsRow B e size v l1.length (l1.flatMap enc):=by
   rcases hown with ⟨rfl,rfl⟩|⟨g,cp,rfl,h2,h3⟩
   ·exact⟨by simp,.inl ⟨rfl,rfl⟩⟩
   ·exact h3.owns hs h2
  cases p with
  | none =>
   have hc:=hsrc.nil rfl;have hn:n=0:=by have:=hsrc.le;omega
   have hl:l2=[]:=List.length_eq_zero_iff.1 (by rw[hsrc.len];exact hn);subst hc hn hl;exact wpList_append_own_none hgd sO xO t ho B e i size ht hi' v _ _ hv hblk hx (hK v w (by rw[List.append_nil];exact hown) (Only.refl _ w))
  | some ad =>
   have hl2:(l2.flatMap enc).length=n*size:=by rw[flat_length enc size hs,hsrc.len]
   refine wpList_plain hgd fun K hK2=>?_
   obtain⟨v',w',hr,h2,h3,h4⟩:=run_append_own (P:=P) w B t o.type e i z size bytes ht hi' z1 z2 z3 hzs hsz v l1.length (l1.flatMap enc) hblk ad n cap (l2.flatMap enc) hl2 (hsrc.src hs hsz) (fun u hu=>by
    rw[List.mem_flatMap] at hu;obtain⟨x,_,hx⟩:=hu;exact h1c x u hx) hlen hby hB
   unfold Oper.wp execOp;simp only[ho,resolve,invoke,builtin,Sem.run_bind,Sem.run_pure,Result.andThen_ok,List.map_toArray,List.map_cons,List.map_nil,hv,hx,hr];refine hK2 _ _ (hK v' w' ?_ ((Only.refl _ w).grown h3 (by intro k hk;left;rw[hk];simp)))
   ·rw[←List.flatMap_append] at h2
    rcases h2.2 with ⟨h6,h7⟩|⟨g',cap',cur,rfl,hbg,_⟩
    ·exact .inl ⟨h6,List.length_eq_zero_iff.1 (by rw[List.length_append,hsrc.len];exact h7)⟩
    ·have hln:l1.length+n=(l1 ++ l2).length:=by rw[List.length_append,hsrc.len]
     rw[hln] at h2 ⊢;exact .inr ⟨g',cap',rfl,hbg,RowAt.of_owns h2 rfl⟩
end
section
variable {P:Program} {w0 w:World} {S:List Nat} {L:List Blk} {Q:Exit→Act→World→Prop}
def wpY (P:Program) (ops:Array Oper) (Q:Exit→Act→World→Prop) (TL:List Nat) (W:World):Nat→Array Bool→Act→World→Prop
 | 0,_,a,w=>Q .normal a w
 | f+1,listed,a,w=>∀ i∈Region.ready .any ops listed,wpOp P ops (nrm (endR Q)) i (fun a' w'=>(late TL (listed.setIfInBounds i true)∨Only [] W w')∧∀ w2,Only [] w' w2→wpY P ops Q TL W f (listed.setIfInBounds i true) a' w2) a w
theorem y_ok {ops:Array Oper} {TL:List Nat} {W:World}:∀ (f:Nat) (listed:Array Bool) (a:Act) (w:World),xOk ops f listed=true→(late TL listed∨Only [] W w)→(∀ w1,Only [] w w1→wpY P ops Q TL W f listed a w1)→wpAnyG P .any ops TL W (endR Q) f listed a w
 | 0,listed,a,w,hB,hC,h=>wpAnyG_done (by simpa [xOk] using hB) (hC.imp_right onlyC) h
 |f+1,listed,a,w,hB,hC,h=>by
  simp only[xOk,Bool.and_eq_true] at hB;have hne:Region.ready .any ops listed≠[]:=by intro e;rw[e] at hB;simp at hB
  exact wpAnyG_nexts _ rfl hne (hC.imp_right onlyC) fun w1 o1 i hi=>wpOp_mono (fun a' w' h'=>y_ok f _ a' w' (List.all_eq_true.1 hB.2 i hi) h'.1 h'.2) (h w1 o1 i hi)
def rYok (l:List Oper) (hd pu TL:List Nat) (n:Nat):Bool:=calmOk3 l hd pu TL && xOk l.toArray n (listOf l.length (hd ++ pu)) && (l.length == hd.length+pu.length+n)
theorem rY {id:Nat} {a:Act} {l:List Oper} (hd pu TL:List Nat) (n:Nat) [m:Mm w0 S w L] (hm:P.follows .mixedOrders=true) (hB:rYok l hd pu TL n=true)
  (h:wpCalmG P l.toArray w (wpCalm P l.toArray (fun _=>True) (fun a'=>∀ w1,Only [] w w1→Mm w0 S w1 L→Facts w1 L→wpY P l.toArray Q TL w n (listOf l.length (hd ++ pu)) a' w1) (pick l pu)) (pick l hd) a):(Code.region id l.toArray true).wp P Q a w:=by
 simp only[rYok,Bool.and_eq_true,beq_iff_eq] at hB;obtain⟨⟨h1,h3⟩,h4⟩:=hB;refine wp_region_calm3 hd pu TL hm h1 (wpCalmG_mono (fun a1 g1=>wpCalm_mono (fun a2 g2=>?_) _ _ g1) _ _ h);refine⟨endR Q,fun a' w' g=>g w' (Only.refl [] w'),fun a' w1 w2 g o w3 o3=>g w3 (o.nil_trans o3),?_⟩;rw[show l.length-(hd.length+pu.length)=n by omega];refine y_ok n _ a2 w.drew h3 (.inr (Only.refl [] w).drew) fun w1 o1=>?_;have o:Only [] w w1:=(Only.refl [] w).drew.nil_trans o1;exact g2 w1 o ⟨m.out.call o⟩ (m.out.call o).k
theorem yN {ops:Array Oper} {TL:List Nat} {W:World} {f:Nat} {listed:Array Bool} {a:Act} (rs:List Nat) (hr:Region.ready .any ops listed=rs) (h:∀ i∈rs,wpOp P ops (nrm (endR Q)) i (fun a' w'=>(late TL (listed.setIfInBounds i true)∨Only [] W w')∧∀ w2,Only [] w' w2→wpY P ops Q TL W f (listed.setIfInBounds i true) a' w2) a w):wpY P ops Q TL W (f+1) listed a w:=by
 unfold wpY;rw[hr];exact h
end
end
section
open Go.RowKit Go.Sort
def cntV (v:List Iv) (t:Int):Nat:=(v.filter fun x=>wth t x.lo x.hi).length
def pkV (v:List Iv) (need t:Int):Bool:=decide (need≤(cntV v t:Int))
def lowV (v u:List Iv) (need:Int):Option Int:=lowO ((u.map Iv.lo).filter (pkV v need))
def higV (v u:List Iv) (need a:Int):Int:=higF a ((u.map Iv.hi).filter (pkV v need))
def hvI (v:List Iv) (need:Int):Option Iv:=match lowV v v need with
 | none=>none
 | some a=>some ⟨a,higV v v need a⟩
theorem cntV_snoc (v:List Iv) (x:Iv) (t:Int):cntV (v ++ [x]) t=cntV v t+if wth t x.lo x.hi=true then 1 else 0:=by
 unfold cntV;rw[List.filter_append,List.length_append];by_cases h:wth t x.lo x.hi=true
 ·rw[if_pos h,List.filter_cons,if_pos h];rfl
 ·rw[if_neg h,List.filter_cons,if_neg h];rfl
theorem cntV_le (v:List Iv) (t:Int):cntV v t≤v.length:=List.length_filter_le _ _
theorem cnt_valid (l:List Iv) (t:Int):cntI l t=cntV (l.filter ivOk) t:=by
 unfold cntI cntV;rw[List.filter_filter];congr 1
 refine List.filter_congr fun x _=>?_;unfold hasI wth
 cases ivOk x<;>simp
theorem lowV_snoc (v u:List Iv) (x:Iv) (need:Int):lowV v (u ++ [x]) need=if pkV v need x.lo=true then minO (lowV v u need) x.lo else lowV v u need:=by
 unfold lowV;rw[List.map_append,List.filter_append];by_cases h:pkV v need x.lo=true
 ·rw[if_pos h,List.map_cons,List.map_nil,List.filter_cons,if_pos h,List.filter_nil,lowO_snoc]
 ·rw[if_neg h,List.map_cons,List.map_nil,List.filter_cons,if_neg h,List.filter_nil,List.append_nil]
theorem higV_snoc (v u:List Iv) (x:Iv) (need a:Int):higV v (u ++ [x]) need a=if pkV v need x.hi=true then max (higV v u need a) x.hi else higV v u need a:=by
 unfold higV;rw[List.map_append,List.filter_append];by_cases h:pkV v need x.hi=true
 ·rw[if_pos h,List.map_cons,List.map_nil,List.filter_cons,if_pos h,List.filter_nil,higF_snoc]
 ·rw[if_neg h,List.map_cons,List.map_nil,List.filter_cons,if_neg h,List.filter_nil,List.append_nil]
theorem hvI_eq (l:List Iv) (need:Int) (h1:1≤need):hullI l need=hvI (l.filter ivOk) need:=by
 rw[hullI_loops l need h1]
 have hp:pkI l need=pkV (l.filter ivOk) need:=by
  funext t
  unfold pkI pkV;rw[cnt_valid]
 have he:∀ f,endsI f (pkI l need) l=((l.filter ivOk).map f).filter (pkV (l.filter ivOk) need):=fun f=>by unfold endsI;rw[hp]
 rw[he,he];rfl
theorem span_ok {c:Cd} (h:okC c=true):ivOk (spanC c)=true:=by
 have:=okC_bd h;rw[ivOk_iff];unfold spanC;dsimp only;omega
theorem spans_ok {l:List Cd} (h:∀ c∈l,okC c=true):(l.map spanC).filter ivOk=l.map spanC:=by
 rw[List.filter_eq_self];intro x hx;obtain⟨c,hc,rfl⟩:=List.mem_map.1 hx;exact span_ok (h c hc)
theorem hull_spans {l:List Cd} (h:∀ c∈l,okC c=true) (need:Int) (h1:1≤need):hullI (l.map spanC) need=hvI (l.map spanC) need:=by
 rw[hvI_eq _ _ h1,spans_ok h]
theorem pkX_not (f:Cd→Bool):∀ (l:List Cd) (i:Nat),(pkX f l i).length+(pkX (fun c=>!f c) l i).length=l.length
 | [],_=>rfl
 |c::r,i=>by
  unfold pkX;have:=pkX_not f r (i+1)
  cases f c<;>simp<;>omega
theorem selAt_out {l:List Cd} (h:∀ c∈l,okC c=true) (a:Nat) (ha:2*a<l.length):selAt l a=match hvI (l.map spanC) ((l.length:Int)-a) with
 | none=>none
 | some i=>if ((pkX (fun c=>!inH i c) l 0).length:Int)≤a then some (pkX (inH i) l 0,i) else none:=by
 unfold selAt;rw[hull_spans h _ (by omega)]
 cases hvI (l.map spanC) ((l.length:Int)-a) with
 | none=>rfl
 | some i =>
  have:=pkX_not (inH i) l 0;dsimp only;by_cases hc:(l.length:Int)-((pkX (inH i) l 0).length:Int)≤a
  ·rw[if_pos hc,if_pos (by omega)]
  ·rw[if_neg hc,if_neg (by omega)]
end
end Go.Proofs.YtedgpfgccpnjnaaGreat
