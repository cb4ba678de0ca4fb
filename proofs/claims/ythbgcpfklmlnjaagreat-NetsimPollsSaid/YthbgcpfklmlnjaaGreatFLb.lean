/- netsim.Truth and Poll, and the same of the reference. Conditions: those named in each theorem. -/
import Derived.Test.YthbgcpfklmlnjaaGreatFOg
import Derived.Test.YthbgcpfklmlnjaaGreatFPuc
namespace Go.Proofs.YthbgcpfklmlnjaaGreat
set_option linter.all false
open IntKind (wrap_i64)
open Go.Lib (hid)
set_option maxRecDepth 100000
set_option maxHeartbeats 8000000
open Go.RowKit Go.Sort
def FN (s:fC) (n a:Int):Iv × Int:=
 if mU s≠0 then (⟨0,0⟩,mU s) else if n<0 then (⟨0,0⟩,3) else if (s.nd.length:Int)<=n then (⟨0,0⟩,3) else if (bJ s n.toNat).rf=false then (⟨0,0⟩,8)
 else if a<0 then (⟨0,0⟩,3) else if s.un<a then (⟨0,0⟩,3) else (⟨a-(bJ s n.toNat).er,a+(bJ s n.toNat).er⟩,0)
def L6 (s:fC) (n v k:Int):Int:=
 if mU s≠0 then -1 else if n<0 then -1 else if (s.nd.length:Int)<=n then -1 else if pQ (bJ s n.toNat)=false then -1 else if v<0 then -1 else if ((bJ s n.toNat).sv.length:Int)<=v then -1
 else if k<0 then -1 else if s.un<(bJ s n.toNat).st+v*1000000 then -1 else if (s.un-((bJ s n.toNat).st+v*1000000)) / 16000000000<k then -1 else (bJ s n.toNat).st+v*1000000+k*16000000000
theorem pTruth {w:World} (s:dU) (hs:s.Ok w) (n a:Int) :
  Calls Tryz.prog 6 #[fZ s,.int .i64 n,.int .i64 a] w fun e w'=>e=.returned (.tuple #[dS (FN s.sc n a).1,.int .i64 (FN s.sc n a).2])/\Only [] w w':=by
 obtain⟨V,hV⟩:∃ V,FN s.sc n a=V:=⟨_,rfl⟩;rw[hV];unfold FN at hV;have HC:=hid (fun w' (o:Only [] w w')=>LU s (hs.kept o));have HN:=hid hs.nd;have hln:=hs.ln;have HWS:=hid (fun h=>eO.jM hs h);have hlen:s.sc.nd.length=s.nd.length:=by unfold dU.sc;simp
 have hunn:s.sc.un=s.un:=rfl;clear hs;obtain⟨e,he⟩:∃ e,mU s.sc=e:=⟨_,rfl⟩;rw[he] at HC HWS hV;rw[hlen,hunn] at hV;clear he hlen hunn;obtain⟨wo,hwo⟩:∃ wo:World,wo=w:=⟨_,rfl⟩;subst hwo;unfold fZ at *;by_cases hz:e=0
 rotate_left
 focus
  rw[if_pos hz] at hV;have hne:(e != 0)=true:=by simpa using hz
  clear HWS HN;have HX:=hid (fun (w':World) (_:Only [] wo w')=>trivial)
 rotate_left
 subst hz;rw[if_neg (by decide)] at hV;have HW:=hid (HWS.out rfl);clear HWS;by_cases h1:n<0
 focus
  rw[if_pos h1] at hV;have dh1:decide (n<0)=true:=dF h1;clear HN HW;have HX:=hid (fun (w':World) (_:Only [] wo w')=>trivial)
 rotate_left
 rw[if_neg h1] at hV;have dh1:decide (n<0)=false:=bR h1;by_cases h2:(s.nd.length:Int)<=n
 focus
  rw[if_pos h2] at hV;have dh2:decide ((s.nd.length:Int)<=n)=true:=dF h2;clear HN HW;have HX:=hid (fun (w':World) (_:Only [] wo w')=>trivial)
 rotate_left
 rw[if_neg h2] at hV;have dh2:decide ((s.nd.length:Int)<=n)=false:=bR h2;obtain⟨j,rfl⟩:∃ j:Nat,n=j:=⟨n.toNat,by omega⟩;rw[Int.toNat_natCast,eB] at hV;have hlt:j<s.nd.length:=by omega
 obtain⟨bk,off,hpn,-⟩:=HN.out.nd (Only.refl [] wo) hlt;have hm:=bC aU hlt;have hst:=HW.out.nst _ hm;have hsv:=HW.out.nsv _ hm;have her:=HW.out.er _ hm;have hun:=HW.out.un;have HF:=hid (fun w' k h=>wD (s.nd.getD j aU) k hst h w');have HIC:=hid (fun w'=>nH (s.nd.getD j aU) w')
 have HX:=hid (show ∀ w',Only [] wo w'->bk<w'.heap.size/\w'.cell? ⟨bk,off+j*7,none⟩=some (.int .i64 (s.nd.getD j aU).n.ph)/\w'.cell? ⟨bk,off+j*7+1,none⟩=some (.slice (s.nd.getD j aU).ps (s.nd.getD j aU).n.sg.length (s.nd.getD j aU).cs)/\w'.cell? ⟨bk,off+j*7+2,none⟩=some (.int .i64 (s.nd.getD j aU).n.tol)/\w'.cell? ⟨bk,off+j*7+3,none⟩=some (.bool (s.nd.getD j aU).n.rf)/\w'.cell? ⟨bk,off+j*7+4,none⟩=some (.int .i64 (s.nd.getD j aU).n.er)/\w'.cell? ⟨bk,off+j*7+5,none⟩=some (.int .i64 (s.nd.getD j aU).n.st)/\w'.cell? ⟨bk,off+j*7+6,none⟩=some (.slice (s.nd.getD j aU).pv (s.nd.getD j aU).n.sv.length (s.nd.getD j aU).cv) from fun w' o=>by
  obtain⟨b',o',e,c1,c2,c3,c4,c5,c6,c7,c8⟩:=HN.out.nd o hlt;rw[hpn] at e
  cases e
  exact⟨c1,c2,c3,c4,c5,c6,c7,c8⟩)
 generalize s.nd.getD j aU=x at HF HIC HX hst hsv her hV;obtain⟨⟨x1,x2,x3,x4,x5,x6,x7⟩,qs,ds,qv,dv⟩:=x;unfold SL at HF HIC;rw[hpn] at HC |-;dsimp only at HF HIC HX hst hsv her hV;clear hm hpn HN HW
 cases x4
 focus
  rw[if_pos rfl] at hV
 rotate_left
 rw[if_neg (by decide)] at hV;by_cases h3:a<0
 focus
  rw[if_pos h3] at hV;have dh3:decide (a<0)=true:=dF h3
 rotate_left
 rw[if_neg h3] at hV;have dh3:decide (a<0)=false:=bR h3;by_cases h4:s.un<a
 focus
  rw[if_pos h4] at hV;have dh4:decide (s.un<a)=true:=dF h4
 rotate_left
 rw[if_neg h4] at hV;have dh4:decide (s.un<a)=false:=bR h4;have HAR:=hid (fun w'=>zA a x5 (by omega) (by omega) w');have r1:IntKind.i64.wrap (a-x5)=a-x5:=by rw[wrap_i64];omega
 have r2:IntKind.i64.wrap (a+x5)=a+x5:=by rw[wrap_i64];omega
 unfold dS at HAR;dsimp only at HAR
 all_goals
  subst hV;unfold dS;dsimp only;have m:=dD wo [];have k:=m.out.k;have c:=HX.out wo (Only.refl _ _);go_enter Tryz.func6,Tryz.ntmps6
  go_wp2_with (first|((with_reducible first|refine cM (HC.out _ gO) ?_|refine cM (HAR.out _) ?_|refine cU ?_|refine wU ?_);clear k m c;intro w m k;have c:=HX.out w m.out.only)|((with_reducible refine lE (fun w o g k K hK=>⟨rfl,?_⟩));simp[results,Tryz.results6,go_sem,k];refine hK _ ?_;exact⟨rfl,o⟩))
theorem rTruth {w:World} (s:dU) (hs:s.Ok w) (n a:Int) :
  Calls Tryz.prog 7 #[fZ s,.int .i64 n,.int .i64 a] w fun e w'=>e=.returned (.tuple #[dS (FN s.sc n a).1,.int .i64 (FN s.sc n a).2])/\Only [] w w':=by
 obtain⟨V,hV⟩:∃ V,FN s.sc n a=V:=⟨_,rfl⟩;rw[hV];unfold FN at hV;have HC:=hid (fun w' (o:Only [] w w')=>V8 s (hs.kept o));have HN:=hid hs.nd;have hln:=hs.ln;have HWS:=hid (fun h=>eO.jM hs h);have hlen:s.sc.nd.length=s.nd.length:=by unfold dU.sc;simp
 have hunn:s.sc.un=s.un:=rfl;clear hs;obtain⟨e,he⟩:∃ e,mU s.sc=e:=⟨_,rfl⟩;rw[he] at HC HWS hV;rw[hlen,hunn] at hV;clear he hlen hunn;obtain⟨wo,hwo⟩:∃ wo:World,wo=w:=⟨_,rfl⟩;subst hwo;unfold fZ at *;by_cases hz:e=0
 rotate_left
 focus
  rw[if_pos hz] at hV;have hne:(e != 0)=true:=by simpa using hz
  clear HWS HN;have HX:=hid (fun (w':World) (_:Only [] wo w')=>trivial)
 rotate_left
 subst hz;rw[if_neg (by decide)] at hV;have HW:=hid (HWS.out rfl);clear HWS;by_cases h1:n<0
 focus
  rw[if_pos h1] at hV;have dh1:decide (n<0)=true:=dF h1;clear HN HW;have HX:=hid (fun (w':World) (_:Only [] wo w')=>trivial)
 rotate_left
 rw[if_neg h1] at hV;have dh1:decide (n<0)=false:=bR h1;by_cases h2:(s.nd.length:Int)<=n
 focus
  rw[if_pos h2] at hV;have dh2:decide ((s.nd.length:Int)<=n)=true:=dF h2;clear HN HW;have HX:=hid (fun (w':World) (_:Only [] wo w')=>trivial)
 rotate_left
 rw[if_neg h2] at hV;have dh2:decide ((s.nd.length:Int)<=n)=false:=bR h2;obtain⟨j,rfl⟩:∃ j:Nat,n=j:=⟨n.toNat,by omega⟩;rw[Int.toNat_natCast,eB] at hV;have hlt:j<s.nd.length:=by omega
 obtain⟨bk,off,hpn,-⟩:=HN.out.nd (Only.refl [] wo) hlt;have hm:=bC aU hlt;have hst:=HW.out.nst _ hm;have hsv:=HW.out.nsv _ hm;have her:=HW.out.er _ hm;have hun:=HW.out.un;have HF:=hid (fun w' k h=>wD (s.nd.getD j aU) k hst h w');have HIC:=hid (fun w'=>nH (s.nd.getD j aU) w')
 have HX:=hid (show ∀ w',Only [] wo w'->bk<w'.heap.size/\w'.cell? ⟨bk,off+j*7,none⟩=some (.int .i64 (s.nd.getD j aU).n.ph)/\w'.cell? ⟨bk,off+j*7+1,none⟩=some (.slice (s.nd.getD j aU).ps (s.nd.getD j aU).n.sg.length (s.nd.getD j aU).cs)/\w'.cell? ⟨bk,off+j*7+2,none⟩=some (.int .i64 (s.nd.getD j aU).n.tol)/\w'.cell? ⟨bk,off+j*7+3,none⟩=some (.bool (s.nd.getD j aU).n.rf)/\w'.cell? ⟨bk,off+j*7+4,none⟩=some (.int .i64 (s.nd.getD j aU).n.er)/\w'.cell? ⟨bk,off+j*7+5,none⟩=some (.int .i64 (s.nd.getD j aU).n.st)/\w'.cell? ⟨bk,off+j*7+6,none⟩=some (.slice (s.nd.getD j aU).pv (s.nd.getD j aU).n.sv.length (s.nd.getD j aU).cv) from fun w' o=>by
  obtain⟨b',o',e,c1,c2,c3,c4,c5,c6,c7,c8⟩:=HN.out.nd o hlt;rw[hpn] at e
  cases e
  exact⟨c1,c2,c3,c4,c5,c6,c7,c8⟩)
 generalize s.nd.getD j aU=x at HF HIC HX hst hsv her hV;obtain⟨⟨x1,x2,x3,x4,x5,x6,x7⟩,qs,ds,qv,dv⟩:=x;unfold SL at HF HIC;rw[hpn] at HC |-;dsimp only at HF HIC HX hst hsv her hV;clear hm hpn HN HW
 cases x4
 focus
  rw[if_pos rfl] at hV
 rotate_left
 rw[if_neg (by decide)] at hV;by_cases h3:a<0
 focus
  rw[if_pos h3] at hV;have dh3:decide (a<0)=true:=dF h3
 rotate_left
 rw[if_neg h3] at hV;have dh3:decide (a<0)=false:=bR h3;by_cases h4:s.un<a
 focus
  rw[if_pos h4] at hV;have dh4:decide (s.un<a)=true:=dF h4
 rotate_left
 rw[if_neg h4] at hV;have dh4:decide (s.un<a)=false:=bR h4;have r1:IntKind.i64.wrap (a-x5)=a-x5:=by rw[wrap_i64];omega
 have r2:IntKind.i64.wrap (a+x5)=a+x5:=by rw[wrap_i64];omega
 all_goals
  subst hV;unfold dS;dsimp only;have m:=dD wo [];have k:=m.out.k;have c:=HX.out wo (Only.refl _ _);go_enter Tryz.func7,Tryz.ntmps7
  go_wp2_with (first|((with_reducible first|refine cM (HC.out _ gO) ?_|refine cM (HAR.out _) ?_|refine cU ?_|refine wU ?_);clear k m c;intro w m k;have c:=HX.out w m.out.only)|((with_reducible refine rG (id:=10) [0,1,2,3,4,5,6,7,8,9,10,11,12,13,14,15,16] [17,18] (by kernel_rfl) (by kernel_rfl) ?_);simp only[pick,List.map_cons,List.map_nil,List.getD_cons_succ,List.getD_cons_zero];(repeat' (first|go_big_quiet_step (fail)|(refine wpQuiet_step (fun K hK=>?_);go_simp;(first|(refine hK _ ?_;clear hK K)|(split<;>(refine hK _ ?_;clear hK K))))));all_goals (refine wpQuiet_nil ?_;clear k m c;intro w m k;have c:=HX.out w m.out.only))|((with_reducible refine lE (fun w o g k K hK=>⟨rfl,?_⟩));simp[results,Tryz.results7,go_sem,k];refine hK _ ?_;exact⟨rfl,o⟩))
theorem RV (x:lM) (w:World) :
  Calls Tryz.prog 18 #[SL x] w fun e w'=>e=.returned (.bool (pQ x.n))/\Only [] w w':=by
 obtain⟨⟨n1,n2,n3,n4,n5,n6,n7⟩,ps,cs,pv,cv⟩:=x;unfold SL pQ;dsimp only;generalize n7.length=l at *
 cases n4
 focus
  have h:decide (0<(l:Int))=decide (0<l):=by rw[Bool.eq_iff_iff];simp
 rotate_left
 rotate_left
 all_goals
  have m:=dD w [];have k:=m.out.k;go_enter Tryz.func18,Tryz.ntmps18
  go_wp2_with (first|((with_reducible refine wU ?_);clear k m;intro w m k)|((with_reducible refine lE (fun w o g k K hK=>⟨rfl,?_⟩));simp[results,Tryz.results18,go_sem];refine hK _ ?_;exact⟨rfl,o⟩))
theorem pPollN {w:World} (s:dU) (hs:s.Ok w) (n v q:Int) :
  Calls Tryz.prog 8 #[fZ s,.int .i64 n,.int .i64 v,.int .i64 q] w fun e w'=>e=.returned (.int .i64 (L6 s.sc n v q))/\Only [] w w':=by
 obtain⟨V,hV⟩:∃ V,L6 s.sc n v q=V:=⟨_,rfl⟩;rw[hV];unfold L6 at hV;have HC:=hid (fun w' (o:Only [] w w')=>LU s (hs.kept o));have HN:=hid hs.nd;have hln:=hs.ln;have HWS:=hid (fun h=>eO.jM hs h);have hlen:s.sc.nd.length=s.nd.length:=by unfold dU.sc;simp
 have hunn:s.sc.un=s.un:=rfl;clear hs;obtain⟨e,he⟩:∃ e,mU s.sc=e:=⟨_,rfl⟩;rw[he] at HC HWS hV;rw[hlen,hunn] at hV;clear he hlen hunn;obtain⟨wo,hwo⟩:∃ wo:World,wo=w:=⟨_,rfl⟩;subst hwo;unfold fZ at *;by_cases hz:e=0
 rotate_left
 focus
  rw[if_pos hz] at hV;have hne:(e != 0)=true:=by simpa using hz
  clear HWS HN;have HX:=hid (fun (w':World) (_:Only [] wo w')=>trivial)
 rotate_left
 subst hz;rw[if_neg (by decide)] at hV;have HW:=hid (HWS.out rfl);clear HWS;by_cases h1:n<0
 focus
  rw[if_pos h1] at hV;have dh1:decide (n<0)=true:=dF h1;clear HN HW;have HX:=hid (fun (w':World) (_:Only [] wo w')=>trivial)
 rotate_left
 rw[if_neg h1] at hV;have dh1:decide (n<0)=false:=bR h1;by_cases h2:(s.nd.length:Int)<=n
 focus
  rw[if_pos h2] at hV;have dh2:decide ((s.nd.length:Int)<=n)=true:=dF h2;clear HN HW;have HX:=hid (fun (w':World) (_:Only [] wo w')=>trivial)
 rotate_left
 rw[if_neg h2] at hV;have dh2:decide ((s.nd.length:Int)<=n)=false:=bR h2;obtain⟨j,rfl⟩:∃ j:Nat,n=j:=⟨n.toNat,by omega⟩;rw[Int.toNat_natCast,eB] at hV;have hlt:j<s.nd.length:=by omega
 obtain⟨bk,off,hpn,-⟩:=HN.out.nd (Only.refl [] wo) hlt;have hm:=bC aU hlt;have hst:=HW.out.nst _ hm;have hsv:=HW.out.nsv _ hm;have her:=HW.out.er _ hm;have hun:=HW.out.un;have HF:=hid (fun w' k h=>wD (s.nd.getD j aU) k hst h w');have HIC:=hid (fun w'=>nH (s.nd.getD j aU) w')
 have HX:=hid (show ∀ w',Only [] wo w'->bk<w'.heap.size/\w'.cell? ⟨bk,off+j*7,none⟩=some (.int .i64 (s.nd.getD j aU).n.ph)/\w'.cell? ⟨bk,off+j*7+1,none⟩=some (.slice (s.nd.getD j aU).ps (s.nd.getD j aU).n.sg.length (s.nd.getD j aU).cs)/\w'.cell? ⟨bk,off+j*7+2,none⟩=some (.int .i64 (s.nd.getD j aU).n.tol)/\w'.cell? ⟨bk,off+j*7+3,none⟩=some (.bool (s.nd.getD j aU).n.rf)/\w'.cell? ⟨bk,off+j*7+4,none⟩=some (.int .i64 (s.nd.getD j aU).n.er)/\w'.cell? ⟨bk,off+j*7+5,none⟩=some (.int .i64 (s.nd.getD j aU).n.st)/\w'.cell? ⟨bk,off+j*7+6,none⟩=some (.slice (s.nd.getD j aU).pv (s.nd.getD j aU).n.sv.length (s.nd.getD j aU).cv) from fun w' o=>by
  obtain⟨b',o',e,c1,c2,c3,c4,c5,c6,c7,c8⟩:=HN.out.nd o hlt;rw[hpn] at e
  cases e
  exact⟨c1,c2,c3,c4,c5,c6,c7,c8⟩)
 generalize s.nd.getD j aU=x at HF HIC HX hst hsv her hV;obtain⟨⟨x1,x2,x3,x4,x5,x6,x7⟩,qs,ds,qv,dv⟩:=x;unfold SL at HF HIC;rw[hpn] at HC |-;dsimp only at HF HIC HX hst hsv her hV;clear hm hpn HN HW;obtain⟨b,hb⟩:∃ b,pQ ⟨x1,x2,x3,x4,x5,x6,x7⟩=b:=⟨_,rfl⟩;rw[hb] at HIC hV;clear hb
 cases b
 focus
  rw[if_pos rfl] at hV
 rotate_left
 rw[if_neg (by decide)] at hV;by_cases h3:v<0
 focus
  rw[if_pos h3] at hV;have dh3:decide (v<0)=true:=dF h3
 rotate_left
 rw[if_neg h3] at hV;have dh3:decide (v<0)=false:=bR h3;by_cases h4:(x7.length:Int)<=v
 focus
  rw[if_pos h4] at hV;have dh4:decide ((x7.length:Int)<=v)=true:=dF h4
 rotate_left
 rw[if_neg h4] at hV;have dh4:decide ((x7.length:Int)<=v)=false:=bR h4;obtain⟨u,rfl⟩:∃ u:Nat,v=u:=⟨v.toNat,by omega⟩;have HF1:=hid (fun w'=>HF.out w' u (by omega));unfold fT at HF1
 dsimp only at HF1;obtain⟨t,ht⟩:∃ t,x6+(u:Int)*1000000=t:=⟨_,rfl⟩;rw[ht] at HF1 hV;by_cases h5:q<0
 focus
  rw[if_pos h5] at hV;have dh5:decide (q<0)=true:=dF h5
 rotate_left
 rw[if_neg h5] at hV;have dh5:decide (q<0)=false:=bR h5;by_cases h6:s.un<t
 focus
  rw[if_pos h6] at hV;have dh6:decide (s.un<t)=true:=dF h6
 rotate_left
 rw[if_neg h6] at hV;have dh6:decide (s.un<t)=false:=bR h6;have r1:IntKind.i64.wrap (s.un-t)=s.un-t:=by rw[wrap_i64];omega
 have r2:(s.un-t).tdiv 16000000000=(s.un-t) / 16000000000:=Int.tdiv_eq_ediv_of_nonneg (by omega);have r3:IntKind.i64.wrap ((s.un-t) / 16000000000)=(s.un-t) / 16000000000:=by rw[wrap_i64];omega
 by_cases h7:(s.un-t) / 16000000000<q
 focus
  rw[if_pos h7] at hV;have dh7:decide ((s.un-t) / 16000000000<q)=true:=dF h7
 rotate_left
 rw[if_neg h7] at hV;have dh7:decide ((s.un-t) / 16000000000<q)=false:=bR h7;have r4:IntKind.i64.wrap (q*16000000000)=q*16000000000:=by rw[wrap_i64];omega
 have r5:IntKind.i64.wrap (t+q*16000000000)=t+q*16000000000:=by rw[wrap_i64];omega
 all_goals
  subst hV;have m:=dD wo [];have k:=m.out.k;have c:=HX.out wo (Only.refl _ _);go_enter Tryz.func8,Tryz.ntmps8
  go_wp2_with (first|((with_reducible first|refine cM (HC.out _ gO) ?_|refine cM (HIC.out _) ?_|refine cM (HF1.out _) ?_|refine cU ?_|refine wU ?_);clear k m c;intro w m k;have c:=HX.out w m.out.only)|((with_reducible refine lE (fun w o g k K hK=>⟨rfl,?_⟩));simp[results,Tryz.results8,go_sem];refine hK _ ?_;exact⟨rfl,o⟩))
theorem rPollN {w:World} (s:dU) (hs:s.Ok w) (n v q:Int) :
  Calls Tryz.prog 9 #[fZ s,.int .i64 n,.int .i64 v,.int .i64 q] w fun e w'=>e=.returned (.int .i64 (L6 s.sc n v q))/\Only [] w w':=by
 obtain⟨V,hV⟩:∃ V,L6 s.sc n v q=V:=⟨_,rfl⟩;rw[hV];unfold L6 at hV;have HC:=hid (fun w' (o:Only [] w w')=>V8 s (hs.kept o));have HN:=hid hs.nd;have hln:=hs.ln;have HWS:=hid (fun h=>eO.jM hs h);have hlen:s.sc.nd.length=s.nd.length:=by unfold dU.sc;simp
 have hunn:s.sc.un=s.un:=rfl;clear hs;obtain⟨e,he⟩:∃ e,mU s.sc=e:=⟨_,rfl⟩;rw[he] at HC HWS hV;rw[hlen,hunn] at hV;clear he hlen hunn;obtain⟨wo,hwo⟩:∃ wo:World,wo=w:=⟨_,rfl⟩;subst hwo;unfold fZ at *;by_cases hz:e=0
 rotate_left
 focus
  rw[if_pos hz] at hV;have hne:(e != 0)=true:=by simpa using hz
  clear HWS HN;have HX:=hid (fun (w':World) (_:Only [] wo w')=>trivial)
 rotate_left
 subst hz;rw[if_neg (by decide)] at hV;have HW:=hid (HWS.out rfl);clear HWS;by_cases h1:n<0
 focus
  rw[if_pos h1] at hV;have dh1:decide (n<0)=true:=dF h1;clear HN HW;have HX:=hid (fun (w':World) (_:Only [] wo w')=>trivial)
 rotate_left
 rw[if_neg h1] at hV;have dh1:decide (n<0)=false:=bR h1;by_cases h2:(s.nd.length:Int)<=n
 focus
  rw[if_pos h2] at hV;have dh2:decide ((s.nd.length:Int)<=n)=true:=dF h2;clear HN HW;have HX:=hid (fun (w':World) (_:Only [] wo w')=>trivial)
 rotate_left
 rw[if_neg h2] at hV;have dh2:decide ((s.nd.length:Int)<=n)=false:=bR h2;obtain⟨j,rfl⟩:∃ j:Nat,n=j:=⟨n.toNat,by omega⟩;rw[Int.toNat_natCast,eB] at hV;have hlt:j<s.nd.length:=by omega
 obtain⟨bk,off,hpn,-⟩:=HN.out.nd (Only.refl [] wo) hlt;have hm:=bC aU hlt;have hst:=HW.out.nst _ hm;have hsv:=HW.out.nsv _ hm;have her:=HW.out.er _ hm;have hun:=HW.out.un;have HF:=hid (fun w' k h=>wD (s.nd.getD j aU) k hst h w');have HIC:=hid (fun w'=>RV (s.nd.getD j aU) w')
 have HX:=hid (show ∀ w',Only [] wo w'->bk<w'.heap.size/\w'.cell? ⟨bk,off+j*7,none⟩=some (.int .i64 (s.nd.getD j aU).n.ph)/\w'.cell? ⟨bk,off+j*7+1,none⟩=some (.slice (s.nd.getD j aU).ps (s.nd.getD j aU).n.sg.length (s.nd.getD j aU).cs)/\w'.cell? ⟨bk,off+j*7+2,none⟩=some (.int .i64 (s.nd.getD j aU).n.tol)/\w'.cell? ⟨bk,off+j*7+3,none⟩=some (.bool (s.nd.getD j aU).n.rf)/\w'.cell? ⟨bk,off+j*7+4,none⟩=some (.int .i64 (s.nd.getD j aU).n.er)/\w'.cell? ⟨bk,off+j*7+5,none⟩=some (.int .i64 (s.nd.getD j aU).n.st)/\w'.cell? ⟨bk,off+j*7+6,none⟩=some (.slice (s.nd.getD j aU).pv (s.nd.getD j aU).n.sv.length (s.nd.getD j aU).cv) from fun w' o=>by
  obtain⟨b',o',e,c1,c2,c3,c4,c5,c6,c7,c8⟩:=HN.out.nd o hlt;rw[hpn] at e
  cases e
  exact⟨c1,c2,c3,c4,c5,c6,c7,c8⟩)
 generalize s.nd.getD j aU=x at HF HIC HX hst hsv her hV;obtain⟨⟨x1,x2,x3,x4,x5,x6,x7⟩,qs,ds,qv,dv⟩:=x;unfold SL at HF HIC;rw[hpn] at HC |-;dsimp only at HF HIC HX hst hsv her hV;clear hm hpn HN HW;obtain⟨b,hb⟩:∃ b,pQ ⟨x1,x2,x3,x4,x5,x6,x7⟩=b:=⟨_,rfl⟩;rw[hb] at HIC hV;clear hb
 cases b
 focus
  rw[if_pos rfl] at hV
 rotate_left
 rw[if_neg (by decide)] at hV;by_cases h3:v<0
 focus
  rw[if_pos h3] at hV;have dh3:decide (v<0)=true:=dF h3
 rotate_left
 rw[if_neg h3] at hV;have dh3:decide (v<0)=false:=bR h3;by_cases h4:(x7.length:Int)<=v
 focus
  rw[if_pos h4] at hV;have dh4:decide ((x7.length:Int)<=v)=true:=dF h4
 rotate_left
 rw[if_neg h4] at hV;have dh4:decide ((x7.length:Int)<=v)=false:=bR h4;obtain⟨u,rfl⟩:∃ u:Nat,v=u:=⟨v.toNat,by omega⟩;have HF1:=hid (fun w'=>HF.out w' u (by omega));unfold fT at HF1
 dsimp only at HF1;obtain⟨t,ht⟩:∃ t,x6+(u:Int)*1000000=t:=⟨_,rfl⟩;rw[ht] at HF1 hV;by_cases h5:q<0
 focus
  rw[if_pos h5] at hV;have dh5:decide (q<0)=true:=dF h5
 rotate_left
 rw[if_neg h5] at hV;have dh5:decide (q<0)=false:=bR h5;have r2:s.un.tdiv 16000000000=s.un / 16000000000:=Int.tdiv_eq_ediv_of_nonneg (by omega);have r3:IntKind.i64.wrap (s.un / 16000000000)=s.un / 16000000000:=by rw[wrap_i64];omega
 by_cases h6:s.un / 16000000000<q
 focus
  have d6:decide (s.un / 16000000000<q)=true:=dF h6;rw[show (if s.un<t then (-1:Int) else if (s.un-t) / 16000000000<q then -1 else t+q*16000000000)= -1 by split<;>(try rfl);rw[if_pos (by omega)]] at hV
 rotate_left
 have d6:decide (s.un / 16000000000<q)=false:=bR h6;have r4:IntKind.i64.wrap (q*16000000000)=q*16000000000:=by rw[wrap_i64];omega
 have r5:IntKind.i64.wrap (x6+q*16000000000)=x6+q*16000000000:=by rw[wrap_i64];omega
 have r6:IntKind.i64.wrap ((u:Int)*1000000)=(u:Int)*1000000:=by rw[wrap_i64];omega
 have r7:IntKind.i64.wrap (x6+q*16000000000+(u:Int)*1000000)=t+q*16000000000:=by rw[wrap_i64];omega
 by_cases h7:s.un<t+q*16000000000
 focus
  have d7:decide (s.un<t+q*16000000000)=true:=dF h7;rw[show (if s.un<t then (-1:Int) else if (s.un-t) / 16000000000<q then -1 else t+q*16000000000)= -1 by split<;>(try rfl);rw[if_pos (by omega)]] at hV
 rotate_left
 have d7:decide (s.un<t+q*16000000000)=false:=bR h7;rw[if_neg (by omega),if_neg (by omega)] at hV
 all_goals
  subst hV;have m:=dD wo [];have k:=m.out.k;have c:=HX.out wo (Only.refl _ _);go_enter Tryz.func9,Tryz.ntmps9
  go_wp2_with (first|((with_reducible first|refine cM (HC.out _ gO) ?_|refine cM (HIC.out _) ?_|refine cM (HF1.out _) ?_|refine cU ?_|refine wU ?_);clear k m c;intro w m k;have c:=HX.out w m.out.only)|((with_reducible refine lE (fun w o g k K hK=>⟨rfl,?_⟩));simp[results,Tryz.results9,go_sem];refine hK _ ?_;exact⟨rfl,o⟩))
end Go.Proofs.YthbgcpfklmlnjaaGreat
