/- Texts of one chain: Dg, Dh, Di. Conditions: those named in each theorem. -/
import Derived.Test.YthbgcpfklmlnjaaGreatFJg
namespace Go.Proofs.YthbgcpfklmlnjaaGreat
open List (getElem_mem mem_cons mem_flatMap not_mem_nil)
open Go.Lib (hid)
set_option maxRecDepth 100000
set_option maxHeartbeats 8000000
section
open Go.RowKit
theorem bP.put {w w':World} {P:Pl} {c c':Cl} {S:List Nat} {s':Sr} (h:bP w P c) (i:Nat) (hi:i<P.ps.length) (ho:Only S w w') (hS:∀ x∈S,x∈[P.bc,P.ps[i].1,P.ps[i].2.1,P.ps[i].2.2]) (hb:mI w' P c') (h1:c'.ck=c.ck) (h2:c'.sv=c.sv) (hs:rZ w' P.ps[i] s') :
  bP w' P { c' with srcs:=c.srcs.set i s' }:=by
 have hnd:=h.nd;unfold Pl.all at hnd;simp only[List.nodup_cons,mem_cons,not_or] at hnd;obtain⟨⟨n1,n2,n3,n4⟩,⟨n5,n6,n7⟩,⟨n8,n9⟩,n10,n11⟩:=hnd
 have key:∀ b,b≠P.bc->b ∉ (P.ps.flatMap fun p=>[p.1,p.2.1,p.2.2])->b ∉ S:=fun b h1 hb hm=>by
  rcases mem_cons.1 (hS b hm) with e|hm
  ·exact h1 e
  ·exact hb (mem_flatMap.2 ⟨P.ps[i],getElem_mem hi,hm⟩)
 refine⟨hb,?_,?_,h.row.kept ho (key _ (Ne.symm n3) n10),by simpa using h.len,?_,h.nd,fun b hb=>Nat.lt_of_lt_of_le (h.lt b hb) ho.size⟩
 ·exact h1 ▸ ho.got h.ck (key _ (Ne.symm n1) n7)
 ·exact h2 ▸ ho.got h.sv (key _ (Ne.symm n2) n9)
 intro j hj hj';by_cases e:i=j
 ·subst e
  simpa using hs
 ·have hjc:j<c.srcs.length:=h.len ▸ hj
  have ap:∀ x∈[P.ps[j].1,P.ps[j].2.1,P.ps[j].2.2],x ∉ S:=fun x hx hm=>by
   rcases mem_cons.1 (hS x hm) with e'|hm
   ·exact n4 (e' ▸ mem_flatMap.2 ⟨P.ps[j],getElem_mem hj,hx⟩)
   ·exact oK (f:=fun p:Nat × Nat × Nat=>[p.1,p.2.1,p.2.2]) hj hi n11 (Ne.symm e) x hx hm
  have:=(h.src j hj hjc).kept ho (ap _ (by simp)) (ap _ (by simp)) (ap _ (by simp));simpa [List.getElem_set_ne e] using this
theorem Pl.NU {P:Pl} {i:Nat} (hi:i<P.ps.length):∀ x∈[P.bc,P.ps[i].1,P.ps[i].2.1,P.ps[i].2.2],x∈P.all:=by
 intro x hx;unfold Pl.all;rcases mem_cons.1 hx with rfl|hx
 ·simp
 ·simp only[mem_cons]
  exact .inr (.inr (.inr (.inr (mem_flatMap.2 ⟨P.ps[i],getElem_mem hi,hx⟩))))
set_option synthInstance.maxSize 2000 in
set_option synthInstance.maxHeartbeats 400000 in
theorem EB {w:World} {P:Pl} {c:Cl} (h:bP w P c) (hok:iY c.ck) (raw:Int) (h0: -9223372036854775808<=raw) (h1:raw<=9223372036854775807) (server:Int) (nonce:Int) (hno:bT server 0 (P.ps.length-1)=true->(aH c raw).2.1≠0) :
  Calls Tryz.prog 100 #[.pointer (some ⟨P.bc,0,none⟩),.int .i64 server,.int .i64 raw,.int .u64 nonce] w fun e w'=>e=.returned (.tuple #[iL yC,.int .i64 (if bT server 0 (P.ps.length-1)=true then (aH c raw).2.1 else 3)])/\mI w' P (if bT server 0 (P.ps.length-1)=true then (aH c raw).2.2 else c)/\Only [P.bc] w w':=by
 have hl:=h.cl;unfold mI at hl;have HC:=hid h;have lbc:=h.lt P.bc (by simp[Pl.all]);have HEN:=hid (fun w' (o:Only [] w w')=>qJ (h.kept o) hok raw h0 h1)
 have hn12:P.ps.length<=9223372036854775807:=by
  obtain⟨cur,_,_,g1,g2,_⟩:=h.row;rw[List.length_map] at g1;exact Nat.le_trans (Nat.le_trans g1 g2) (by decide)
 have r1:IntKind.i64.wrap ((P.ps.length:Int)-1)=(P.ps.length:Int)-1:=by rw[IntKind.wrap_i64];omega
 have HO:=hid (fun w'=>gF server 0 ((P.ps.length:Int)-1) w');unfold iL yC;dsimp only;by_cases hw:bT server 0 ((P.ps.length:Int)-1)=true
 rotate_left
 focus
  have hw2:bT server 0 ((P.ps.length:Int)-1)=false:=by simpa using hw
  simp only[if_neg hw];rw[hw2] at HO;clear hno hw hw2 HEN h;have m:=mY hl;have k:=m.out.k;go_enter Tryz.func100,Tryz.ntmps100
  go_wp2_with (first|((with_reducible first|refine cU ?_|refine cM (HO.out _) ?_|refine wU ?_);clear k m;intro w m k)|((with_reducible refine lE (fun w o g k K hK=>⟨rfl,?_⟩));simp[results,Tryz.results100,go_sem,k];refine hK _ ?_;exact⟨rfl,(HC.out.kept o).cl,o.weak (by simp)⟩))
 have he:=hno hw;simp only[if_pos hw];rw[hw] at HO;have q1:((aH c raw).2.1 != 0)=true:=by simpa using he
 generalize aH c raw=ce at HEN he q1 |-;obtain⟨now,er,c1⟩:=ce;dsimp only at HEN he q1 |-;clear hno hw h;obtain⟨wo,hwo⟩:∃ wo:World,wo=w:=⟨_,rfl⟩;subst hwo;have m:=mY hl;have k:=m.out.k;clear hl HC;go_enter Tryz.func100,Tryz.ntmps100
 go_wp2_with ((with_reducible first|refine cU ?_|refine cM (HO.out _) ?_|refine wU ?_);clear k m;intro w m k)
 obtain⟨b2,e2,g2,f2,n2⟩:=m.box0 rfl;rw[<-e2];clear n2 e2;refine (HEN.out _ m.out.only).mono ?_;rintro e w2 ⟨rfl,hcb,ho2⟩;have hb2:=ho2.got g2 (by simp;omega);have O2:=hid ((m.out.only.weak (S':=[P.bc]) (by simp)).trans ho2 (by simp));have HFIN:=hid (fun w' (o:Only [b2] w2 w')=>show mI w' P c1/\Only [P.bc] wo w' from ⟨o.got hcb (by simp;omega),O2.out.trans o (fun x hx=>.inr (by rw[List.mem_singleton.1 hx];exact f2))⟩);clear k m HEN hcb ho2 g2;have m:=lQ hb2;have k:=m.out.k;clear hb2;go_wp2_with (first|((with_reducible first|refine cU ?_|refine wU ?_);clear k m;intro w m k)|((with_reducible refine lE (fun w o g k K hK=>⟨rfl,?_⟩));simp[results,Tryz.results100,go_sem,k];refine hK _ ?_;exact⟨rfl,HFIN.out w o⟩))
set_option synthInstance.maxSize 2000 in
set_option synthInstance.maxHeartbeats 400000 in
theorem uV {w:World} {P:Pl} {c:Cl} (h:bP w P c) (hok:iY c.ck) (raw:Int) (h0: -9223372036854775808<=raw) (h1:raw<=9223372036854775807) (server:Int) (p:Np) (iv:Iv) (has:Bool) (hno:bT server 0 (P.ps.length-1)=true->(aH c raw).2.1≠0) :
  Calls Tryz.prog 215 #[.pointer (some ⟨P.bc,0,none⟩),.int .i64 server,iL p,dS iv,.bool has,.int .i64 raw] w fun e w'=>e=.returned (.tuple #[IV (LD 0),.int .i64 (if bT server 0 (P.ps.length-1)=true then (aH c raw).2.1 else 3)])/\mI w' P (if bT server 0 (P.ps.length-1)=true then (aH c raw).2.2 else c)/\Only [P.bc] w w':=by
 have hl:=h.cl;unfold mI at hl;have HC:=hid h;have lbc:=h.lt P.bc (by simp[Pl.all]);have HEN:=hid (fun w' (o:Only [] w w')=>qJ (h.kept o) hok raw h0 h1)
 have hn12:P.ps.length<=9223372036854775807:=by
  obtain⟨cur,_,_,g1,g2,_⟩:=h.row;rw[List.length_map] at g1;exact Nat.le_trans (Nat.le_trans g1 g2) (by decide)
 have r1:IntKind.i64.wrap ((P.ps.length:Int)-1)=(P.ps.length:Int)-1:=by rw[IntKind.wrap_i64];omega
 have HO:=hid (fun w'=>gF server 0 ((P.ps.length:Int)-1) w');obtain⟨q1,q2,q3,q4,q5,q6,q7,q8,q9,q10,q11,q12,q13⟩:=p;obtain⟨x1,x2⟩:=iv;unfold IV LD iL dS;dsimp only;by_cases hw:bT server 0 ((P.ps.length:Int)-1)=true
 rotate_left
 focus
  have hw2:bT server 0 ((P.ps.length:Int)-1)=false:=by simpa using hw
  simp only[if_neg hw];rw[hw2] at HO;clear hno hw hw2 HEN h;have m:=mY hl;have k:=m.out.k;go_enter Tryz.func215,Tryz.ntmps215
  go_upto_region 1 with (fail)
  refine wU ?_;clear k m;intro w m k;go_wp2_with (first|((with_reducible first|refine cU ?_|refine cM (HO.out _) ?_|refine wU ?_);clear k m;intro w m k)|((with_reducible refine lE (fun w o g k K hK=>⟨rfl,?_⟩));simp[results,Tryz.results215,go_sem,k];refine hK _ ?_;exact⟨rfl,(HC.out.kept o).cl,o.weak (by simp)⟩))
 have he:=hno hw;simp only[if_pos hw];rw[hw] at HO;have q1:((aH c raw).2.1 != 0)=true:=by simpa using he
 generalize aH c raw=ce at HEN he q1 |-;obtain⟨now,er,c1⟩:=ce;dsimp only at HEN he q1 |-;clear hno hw h;obtain⟨wo,hwo⟩:∃ wo:World,wo=w:=⟨_,rfl⟩;subst hwo;have m:=mY hl;have k:=m.out.k;clear hl HC;go_enter Tryz.func215,Tryz.ntmps215
 go_upto_region 1 with (fail)
 refine wU ?_;clear k m;intro w m k;go_wp2_with ((with_reducible first|refine cU ?_|refine cM (HO.out _) ?_|refine wU ?_);clear k m;intro w m k)
 obtain⟨b2,e2,g2,f2,n2⟩:=m.box0 rfl;rw[<-e2];clear n2 e2;refine (HEN.out _ m.out.only).mono ?_;rintro e w2 ⟨rfl,hcb,ho2⟩;have hb2:=ho2.got g2 (by simp;omega);have O2:=hid ((m.out.only.weak (S':=[P.bc]) (by simp)).trans ho2 (by simp));have HFIN:=hid (fun w' (o:Only [b2] w2 w')=>show mI w' P c1/\Only [P.bc] wo w' from ⟨o.got hcb (by simp;omega),O2.out.trans o (fun x hx=>.inr (by rw[List.mem_singleton.1 hx];exact f2))⟩);clear k m HEN hcb ho2 g2;have m:=lQ hb2;have k:=m.out.k;clear hb2;go_wp2_with (first|((with_reducible first|refine cU ?_|refine wU ?_);clear k m;intro w m k)|((with_reducible refine lE (fun w o g k K hK=>⟨rfl,?_⟩));simp[results,Tryz.results215,go_sem,k];refine hK _ ?_;exact⟨rfl,HFIN.out w o⟩))
def dL (c:Cl) (server raw nonce:Int):(Np × Int) × Cl:=
 if bT server 0 (c.srcs.length-1)=true then
  (if (aH c raw).2.1=0 then (((gZ (c.srcs.getD server.toNat (o9 c.cf)) raw (aH c raw).1 nonce).1,(gZ (c.srcs.getD server.toNat (o9 c.cf)) raw (aH c raw).1 nonce).2.1),{ (aH c raw).2.2 with srcs:=c.srcs.set server.toNat (gZ (c.srcs.getD server.toNat (o9 c.cf)) raw (aH c raw).1 nonce).2.2 })
  else ((yC,(aH c raw).2.1),c))
 else ((yC,3),c)
def fF (c:Cl) (server:Int) (p:Np) (iv:Iv) (has:Bool) (raw:Int):(Hd × Int) × Cl:=
 if bT server 0 (c.srcs.length-1)=true then
  (if (aH c raw).2.1=0 then (((j6 (c.srcs.getD server.toNat (o9 c.cf)) server p iv has raw (aH c raw).1 c.cf.prec c.cf.tol).1,0),{ (aH c raw).2.2 with srcs:=c.srcs.set server.toNat (j6 (c.srcs.getD server.toNat (o9 c.cf)) server p iv has raw (aH c raw).1 c.cf.prec c.cf.tol).2 })
  else ((LD 0,(aH c raw).2.1),c))
 else ((LD 0,3),c)
theorem CK {c:Cl} {raw:Int} (h:(aH c raw).2.1≠0):(aH c raw).2.2=c:=by
 unfold aH at *;split
 ·rename_i hh;rw[if_pos hh] at h;exact absurd rfl h
 ·rfl
theorem cSend {w:World} {P:Pl} {c:Cl} (h:bP w P c) (hok:iY c.ck) (raw:Int) (h0: -9223372036854775808<=raw) (h1:raw<=9223372036854775807) (server nonce:Int) :
  Calls Tryz.prog 100 #[.pointer (some ⟨P.bc,0,none⟩),.int .i64 server,.int .i64 raw,.int .u64 nonce] w fun e w'=>e=.returned (.tuple #[iL (dL c server raw nonce).1.1,.int .i64 (dL c server raw nonce).1.2])/\bP w' P (dL c server raw nonce).2/\Only P.all w w':=by
 have hlen:=h.len;have hbc:∀ x∈[P.bc],x∈P.all:=fun x hx=>by simp only[mem_cons,not_mem_nil,or_false] at hx;subst hx;unfold Pl.all;simp
 unfold dL;by_cases hw:bT server 0 (c.srcs.length-1)=true
 ·rw[if_pos hw]
  by_cases he:(aH c raw).2.1=0
  ·rw[if_pos he]
   have hb:=aW.1 hw;obtain⟨i,rfl⟩:∃ i:Nat,server=i:=⟨server.toNat,by omega⟩;have hi:i<P.ps.length:=by omega
   have hic:i<c.srcs.length:=by omega
   rw[show c.srcs.getD (i:Int).toNat (o9 c.cf)=c.srcs[i] by simp[hic]];refine (pClSend h hok raw h0 h1 nonce i hi he).mono ?_;rintro e w' ⟨_,rfl,⟨hB,hS⟩,ho⟩;have hs:=fK c raw;have hp:=h.put i hi (ho.weak (S':=[P.bc,P.ps[i].1,P.ps[i].2.1,P.ps[i].2.2]) (by intro x hx;simp only[mem_cons,not_mem_nil,or_false] at hx |-;omega)) (fun x hx=>hx) hB hs.1 hs.2.1 hS;exact⟨rfl,hp,(ho.weak (S':=[P.bc,P.ps[i].1,P.ps[i].2.1,P.ps[i].2.2]) (by intro x hx;simp only[mem_cons,not_mem_nil,or_false] at hx |-;omega)).weak (Pl.NU hi)⟩
  ·rw[if_neg he]
   refine (EB h hok raw h0 h1 server nonce (fun _=>he)).mono ?_;rintro e w' ⟨rfl,hB,ho⟩;rw[hlen,if_pos hw] at hB |-;have hs:=fK c raw;have hp:=h.RX ho hB hs.1 hs.2.1 hs.2.2;rw[CK he] at hp;exact⟨rfl,hp,ho.weak hbc⟩
 ·rw[if_neg hw]
  refine (EB h hok raw h0 h1 server nonce (fun hh=>absurd (hlen ▸ hh) hw)).mono ?_;rintro e w' ⟨rfl,hB,ho⟩;rw[hlen,if_neg hw] at hB |-;exact⟨rfl,h.RX ho hB rfl rfl rfl,ho.weak hbc⟩
theorem cRecv {w:World} {P:Pl} {c:Cl} (h:bP w P c) (hok:iY c.ck) (raw:Int) (h0: -9223372036854775808<=raw) (h1:raw<=9223372036854775807) (server:Int) (p:Np) (iv:Iv) (has:Bool) (hn:c.srcs.length<=100) (hpo:eP p)
  (hw:(aH c raw).2.1=0->∀ s∈c.srcs,(-9223372036854775808<=raw-s.sent/\raw-s.sent<=9223372036854775807)/\(-9223372036854775808<=raw-s.pat/\raw-s.pat<=9223372036854775807)) :
  Calls Tryz.prog 215 #[.pointer (some ⟨P.bc,0,none⟩),.int .i64 server,iL p,dS iv,.bool has,.int .i64 raw] w fun e w'=>e=.returned (.tuple #[IV (fF c server p iv has raw).1.1,.int .i64 (fF c server p iv has raw).1.2])/\bP w' P (fF c server p iv has raw).2/\Only P.all w w':=by
 have hlen:=h.len;have hbc:∀ x∈[P.bc],x∈P.all:=fun x hx=>by simp only[mem_cons,not_mem_nil,or_false] at hx;subst hx;unfold Pl.all;simp
 unfold fF;by_cases hwi:bT server 0 (c.srcs.length-1)=true
 ·rw[if_pos hwi]
  by_cases he:(aH c raw).2.1=0
  ·rw[if_pos he]
   have hb:=aW.1 hwi;obtain⟨i,rfl⟩:∃ i:Nat,server=i:=⟨server.toNat,by omega⟩;have hi:i<P.ps.length:=by omega
   have hic:i<c.srcs.length:=by omega
   rw[show c.srcs.getD (i:Int).toNat (o9 c.cf)=c.srcs[i] by simp[hic]];have hwi:=hw he _ (getElem_mem hic);refine (pClRecv h hok raw h0 h1 i hi (by omega) he p hpo iv has hwi.1 hwi.2).mono ?_;rintro e w' ⟨_,rfl,⟨hB,hS⟩,ho⟩;have hs:=fK c raw;exact⟨rfl,h.put i hi ho (fun x hx=>hx) hB hs.1 hs.2.1 hS,ho.weak (Pl.NU hi)⟩
  ·rw[if_neg he]
   refine (uV h hok raw h0 h1 server p iv has (fun _=>he)).mono ?_;rintro e w' ⟨rfl,hB,ho⟩;rw[hlen,if_pos hwi] at hB |-;have hs:=fK c raw;have hp:=h.RX ho hB hs.1 hs.2.1 hs.2.2;rw[CK he] at hp;exact⟨rfl,hp,ho.weak hbc⟩
 ·rw[if_neg hwi]
  refine (uV h hok raw h0 h1 server p iv has (fun hh=>absurd (hlen ▸ hh) hwi)).mono ?_;rintro e w' ⟨rfl,hB,ho⟩;rw[hlen,if_neg hwi] at hB |-;exact⟨rfl,h.RX ho hB rfl rfl rfl,ho.weak hbc⟩
end
section
open Go.RowKit
def pU (s:Sr):Prop:=(-4503599627370496<=s.sent/\s.sent<=4503599627370496)/\(-4503599627370496<=s.pat/\s.pat<=4503599627370496)
structure r9 (c:Cl):Prop where
 ck:iY c.ck
 src:∀ s∈c.srcs,pU s
 own: -4503599627370496<=c.owned/\c.owned<=4503599627370496
 s0:1<=c.cf.servers
 s1:c.cf.servers<=12
 len:(c.srcs.length:Int)=c.cf.servers
theorem MF {c:Cl} {raw:Int} (h:(aY c raw).2=0) (hk:iY c.ck): -4503599627370496<=raw/\raw<=4503599627370496:=by
 have:=hk.r0
 have hn:(eF c.ck raw).2=0:=by
  unfold aY at h;by_cases hz:(eF c.ck raw).2=0
  ·exact hz
  ·rw[if_neg hz] at h;exact h
 unfold eF at hn;split at hn
 ·exact absurd hn (by decide)
 ·split at hn
  ·exact absurd hn (by decide)
  ·omega
theorem rF {c:Cl} {raw:Int} (h:(aH c raw).2.1=0):(aY c raw).2=0:=by
 unfold aH at h;split at h
 ·assumption
 ·exact h
theorem qR {c:Cl} {raw:Int} (h:(aH c raw).2.1=0) (hk:iY c.ck): -4503599627370496<=raw/\raw<=4503599627370496:=MF (rF h) hk
theorem vO (c:Cl) (raw:Int):(aH c raw).2.2.cf=c.cf/\(aH c raw).2.2.own=c.own/\(aH c raw).2.2.owned=c.owned/\(aH c raw).2.2.rt=c.rt:=by
 unfold aH;split<;>exact⟨rfl,rfl,rfl,rfl⟩
theorem VJ {s:Sr} {raw now nonce:Int} (h:pU s) (hr: -4503599627370496<=raw/\raw<=4503599627370496):pU (gZ s raw now nonce).2.2:=by
 unfold gZ;split
 ·exact⟨hr,h.2⟩
 ·exact h
theorem RQ {s:Sr} {iv:Iv} {raw tol:Int} (h:pU s) (hr: -4503599627370496<=raw/\raw<=4503599627370496):pU (iO s iv raw tol):=by
 unfold iO;split
 ·split
  ·exact h
  ·exact⟨h.1,hr⟩
 ·exact h
theorem VQ {s:Sr} {i:Int} {p:Np} {q:Qd} {prec tol:Int} (h:pU s):pU (mE s i p q prec tol):=by
 unfold mE;split
 ·split<;>exact h
 ·exact h
theorem VN {s:Sr} {i:Int} {p:Np} {iv:Iv} {has:Bool} {raw now prec tol:Int} (h:pU s) (hr: -4503599627370496<=raw/\raw<=4503599627370496):pU (j6 s i p iv has raw now prec tol).2:=by
 unfold j6;split
 ·exact h
 ·split
  ·dsimp only
   refine VQ ?_;split
   ·exact RQ h hr
   ·exact h
  ·exact h
theorem ZR {l:List Sr} {i:Nat} {s:Sr} (h:∀ x∈l,pU x) (hs:pU s):∀ x∈l.set i s,pU x:=fun x hx=>by
 rcases List.mem_or_eq_of_mem_set hx with h'|rfl
 ·exact h x h'
 ·exact hs
theorem UZ (c:Cf):pU (o9 c):=by
 unfold pU o9;dsimp only;decide
theorem QD {l:List Sr} {i:Nat} {c:Cf} (h:∀ x∈l,pU x):pU (l.getD i (o9 c)):=by
 rw[List.getD_eq_getElem?_getD]
 cases hh:l[i]? with
 | none=>exact UZ c
 | some x=>exact h x (List.mem_of_getElem? hh)
theorem r9.send {c:Cl} (h:r9 c) (server raw nonce:Int):r9 (dL c server raw nonce).2:=by
 unfold dL;split
 ·split
  ·rename_i he
   have e:=fK c raw;have e2:=vO c raw;have hr:=qR he h.ck;refine⟨?_,?_,?_,?_,?_,?_⟩
   ·exact e.1 ▸ h.ck
   ·exact ZR h.src (VJ (QD h.src) hr)
   ·exact e2.2.2.1 ▸ h.own
   ·exact e2.1 ▸ h.s0
   ·exact e2.1 ▸ h.s1
   ·have:=h.len
    rw[<-e2.1] at this;simpa using this
  ·exact h
 ·exact h
theorem r9.recv {c:Cl} (h:r9 c) (server:Int) (p:Np) (iv:Iv) (has:Bool) (raw:Int):r9 (fF c server p iv has raw).2:=by
 unfold fF;split
 ·split
  ·rename_i he
   have e:=fK c raw;have e2:=vO c raw;have hr:=qR he h.ck;refine⟨?_,?_,?_,?_,?_,?_⟩
   ·exact e.1 ▸ h.ck
   ·exact ZR h.src (VN (QD h.src) hr)
   ·exact e2.2.2.1 ▸ h.own
   ·exact e2.1 ▸ h.s0
   ·exact e2.1 ▸ h.s1
   ·have:=h.len
    rw[<-e2.1] at this;simpa using this
  ·exact h
 ·exact h
theorem r9.new {c:Cf} {raw time:Int} (hr:fI raw=true) (ht:fI time=true) (h1:1<=c.servers/\c.servers<=12):r9 (G9 c raw time):=by
 have a:=aW.1 (show bT raw (-4503599627370496) 4503599627370496=true from hr);have b:=aW.1 (show bT time (-4503599627370496) 4503599627370496=true from ht);have q:(-500000:Int)<=0/\(0:Int)<=500000/\(0:Int)<=0/\(0:Int)<=9223372036854775807:=by decide
 refine⟨⟨a.1,a.2,b.1,b.2,q.1,q.2.1,q.2.2.1,q.2.2.2⟩,?_,a,h1.1,h1.2,?_⟩
 ·intro s hs
  obtain rfl:=(List.mem_replicate.1 hs).2;exact UZ c
 ·show ((List.replicate c.servers.toNat (o9 c)).length:Int)=c.servers
  rw[List.length_replicate];omega
theorem r9.w {c:Cl} {raw:Int} (h:r9 c) (he: -4503599627370496<=raw/\raw<=4503599627370496):∀ s∈c.srcs,(-9223372036854775808<=raw-s.sent/\raw-s.sent<=9223372036854775807)/\(-9223372036854775808<=raw-s.pat/\raw-s.pat<=9223372036854775807):=fun s hs=>by
 have:=h.src s hs;unfold pU at this;omega
theorem dRecv {w:World} {P:Pl} {c:Cl} (h:bP w P c) (hok:r9 c) (raw:Int) (h0: -9223372036854775808<=raw) (h1:raw<=9223372036854775807) (server:Int) (p:Np) (iv:Iv) (has:Bool) (hpo:eP p) :
  Calls Tryz.prog 215 #[.pointer (some ⟨P.bc,0,none⟩),.int .i64 server,iL p,dS iv,.bool has,.int .i64 raw] w fun e w'=>e=.returned (.tuple #[IV (fF c server p iv has raw).1.1,.int .i64 (fF c server p iv has raw).1.2])/\bP w' P (fF c server p iv has raw).2/\Only P.all w w':=
 cRecv h hok.ck raw h0 h1 server p iv has (by have:=hok.len;have:=hok.s1;omega) hpo (fun he=>hok.w (qR he hok.ck))
theorem EW {w:World} {P:Pl} {c:Cl} (h:bP w P c) (hok:r9 c) (raw:Int) (h0: -9223372036854775808<=raw) (h1:raw<=9223372036854775807) :
  Calls Tryz.prog 136 #[.pointer (some ⟨P.bc,0,none⟩),.int .i64 raw] w fun e w'=>e=.returned (.tuple #[dS (nN c raw).1,.int .i64 (nN c raw).2])/\Only [] w w':=
 JN h hok.ck (by have:=hok.len;have:=hok.s1;have:=h.len;omega) hok.s0 hok.s1 raw h0 h1 (fun hz s hs=>(hok.w (MF hz hok.ck) s hs).2) (fun hz=>by have:=MF hz hok.ck;have:=hok.own;omega)
theorem J4 {x:Iv} (h:bW x=true):J5 [x] 0=some x:=by
 have hf:[x].filter bW=[x]:=by simp[h]
 have hle:x.lo<=x.hi:=by have:=of_decide_eq_true h;exact this.1
 have hc1:rU [x] x.lo=1:=by unfold rU GN;simp[h,hle]
 have hc2:rU [x] x.hi=1:=by unfold rU GN;simp[h,hle]
 unfold J5;rw[hf];simp only[List.length_cons,List.length_nil];rw[if_neg (by decide)];unfold qO nR UC;rw[hf];simp[hc1,hc2,uI]
end
section
open Go.RowKit
end
end Go.Proofs.YthbgcpfklmlnjaaGreat
