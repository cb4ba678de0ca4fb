/- The law AuditBounds. Conditions: those named in each theorem. -/
import Derived.Test.YtppjhbjmfkiejaaGreatFIp
import Derived.Test.YtppjhbjmfkiejaaGreatFOi
namespace Go.Proofs.YtppjhbjmfkiejaaGreat
set_option linter.all false
open Go.Lib (hid)
set_option maxRecDepth 100000
set_option maxHeartbeats 8000000
open Go.RowKit Go.Sort
theorem WY {α:Type} {enc:α->List Value} {s:Nat} {w:World} {p:Option Addr} {n cap:Nat} {l:List α} (hv:aR enc s w p n cap l) {k:Nat} {x:α} (hk:l[k]? = some x) :
  ∃ b off,p=some ⟨b,off,none⟩/\∀ w',Only [] w w'->b<w'.heap.size/\∀ (j:Nat) u,(enc x)[j]? = some u->w'.cell? ⟨b,off+k*s+j,none⟩=some u:=by
 obtain⟨b,off,hp,hb,hc⟩:=hv.cell k x hk;refine⟨b,off,hp,fun w' ho=>⟨Nat.lt_of_lt_of_le hb ho.size,fun j u hj=>?_⟩⟩;rw[ho.cell hb (by simp),Nat.add_assoc];exact hc j u hj
theorem pBounds {w:World} (s:dU) (h0:s.Ok0 w) {R:List (Int × Int)} (hR:sD w R) {p:Option Addr} {n cp:Nat} {l:List lI} (ha:aR rQ 9 w p n cp l) (nd:Int) :
  Calls Tryz.prog 7 #[fG s,.slice p n cp,.int .i64 nd] w fun e w'=>e=.returned (.bool true)/\Only [] w w':=by
 obtain rfl:n=l.length:=by have:=ha.len;omega
 have HFEW:=hid (fun w' (o:Only [] w w')=>pFew59 s (h0.nd.kept o) (h0.lk.kept o));have HER:=hid (fun (hf:FewP s) (hl:l.length<=1000000) w' (o:Only [] w w')=>QJ s ((h0.ok hf).kept o) (ha.kept o) hl nd);have HWA:=hid (fun (hf:FewP s) (hl:l.length<=1000000) (hb:∀ x∈l.filter (fun x=>x.nd == nd),-1<rV x/\ -1<=rV x) w' (o:Only [] w w')=>XR s ((h0.ok hf).kept o) (ha.kept o) hl nd (-1) (-1) (by decide) (by decide) (by decide) hb);have HAW:=hid (fun w' (o:Only [] w w')=>Y0 (hR.kept o));have HV:=hid ha;clear h0 hR ha;obtain⟨wo,hwo⟩:∃ wo:World,wo=w:=⟨_,rfl⟩;subst hwo;unfold fG at *;have m:=bJ wo [];have k:=m.out.k;go_enter Tryz.func7,Tryz.ntmps7
 go_wp2_with ((with_reducible first|refine cU ?_|refine wU ?_);clear k m;intro w m k)
 refine (HFEW.out _ m.out.only).mono ?_;rintro r w2 ⟨b,rfl,hb,o2⟩;replace m:Mm wo [] w2 _:=⟨m.out.call o2⟩;clear k o2 HFEW;have k:=m.out.k
 cases b with
 | false =>
  go_wp2_with (first|((with_reducible first|refine cM (HAW.out _ gO) ?_|refine cU ?_|refine wU ?_);clear k m;intro w m k)|((with_reducible refine lE (fun w o g k K hK=>⟨rfl,?_⟩));simp[results,Tryz.results7,go_sem];refine hK _ ?_;exact⟨rfl,o⟩))
 | true =>
  have HF:=hid (hb rfl);clear hb;by_cases hl:500<l.length
  ·have d1:decide (500<(l.length:Int))=true:=dW (by omega)
   go_wp2_with (first|((with_reducible first|refine cM (HAW.out _ gO) ?_|refine cU ?_|refine wU ?_);clear k m;intro w m k)|((with_reducible refine lE (fun w o g k K hK=>⟨rfl,?_⟩));simp[results,Tryz.results7,go_sem];refine hK _ ?_;exact⟨rfl,o⟩))
  have d1:decide (500<(l.length:Int))=false:=dD (by omega);have hl6:l.length<=1000000:=by omega
  go_wp2_with ((with_reducible first|refine cU ?_|refine wU ?_);clear k m;intro w m k)
  refine (HER.out HF.out hl6 _ m.out.only).mono ?_;rintro r w3 ⟨v,rfl,own,o3⟩;replace m:Mm wo [] w3 _:=⟨m.out.call o3⟩;clear k o3 HER d1;have k:=m.out.k;by_cases hz:LV s.sc l nd=0
  rotate_left
  ·have hne:(LV s.sc l nd != 0)=true:=by simpa using hz
   clear hz own HWA;generalize LV s.sc l nd=e at hne |-;go_wp2_with (first|((with_reducible first|refine cM (HAW.out _ gO) ?_|refine cU ?_|refine wU ?_);clear k m;intro w m k)|((with_reducible refine lE (fun w o g k K hK=>⟨rfl,?_⟩));simp[results,Tryz.results7,go_sem];refine hK _ ?_;exact⟨rfl,o⟩))
  have HOF:=hid (ZA hz).1;have hw:=HWA.out HF.out hl6 (fun x hx=>by have:=bnd_ge (HOF.out x hx).iv;omega);rw[hz] at hw own |-;rw[if_pos rfl] at own;have HWB:=hid hw;have OO3:=hid m.out.only;have hbx:=gB (w:=w3) (b:=wo.heap.size);clear k m hw HWA hz;have m:=jZ hbx;have k:=m.out.k;clear hbx;go_wp2_with ((with_reducible first|refine cU ?_|refine wU ?_);clear k m;intro w m k)
  refine (HWB.out _ (OO3.out.aA m.out.only)).mono ?_;rintro r w4 ⟨v2,rfl,own2,o4⟩;rw[if_pos trivial] at own2;have O4:=m.out.only.aA o4;have OO:=hid (OO3.out.aA O4);obtain⟨p1,c1,rfl,hv1⟩:=(own.kept O4).dI (show ∀ x,(C9 x).length=1 from fun _=>rfl);obtain⟨p2,c2,rfl,hv2⟩:=own2.dI zB;clear k m own own2 o4 O4 HWB OO3;have HL:=hid hl6;have hfl:(l.filter (fun x=>x.nd == nd)).length<=1000000:=Nat.le_trans (List.length_filter_le _ _) hl6;rw[List.length_map] at hv1 |-;rw[GQ] at hv2 |-;have HV1:=hid hv1;have HV2:=hid hv2;clear hv1 hv2 hl hl6 HF;have HG:=hid (fun (i:Nat) (h:i<l.length) (hn:l[i].nd=nd)=>Z9 h hn);have HSS:=hid (fun (i:Nat) (h:i<l.length)=>EX (n:=nd) h);have HTL:=hid (show (l.take l.length).filter (fun x=>x.nd == nd)=l.filter (fun x=>x.nd == nd) by rw[List.take_length]);generalize l.filter (fun x=>x.nd == nd)=fl at HOF HV1 HV2 HG HTL hfl |-;obtain⟨F,hF⟩:∃ F:Nat->List lI,F=fun i=>(l.take i).filter (fun x=>x.nd == nd):=⟨_,rfl⟩;replace HG:Hid (∀ (i:Nat) (h:i<l.length) (hn:l[i].nd=nd),fl[(F i).length]? = some l[i]):=hid (by rw[hF];exact HG.out);replace HSS:Hid (∀ (i:Nat) (h:i<l.length),F (i+1)=F i ++ (if l[i].nd=nd then [l[i]] else [])):=hid (by rw[hF];exact HSS.out);replace HTL:Hid (F l.length=fl):=hid (by rw[hF];exact HTL.out);have hF0:F 0=[]:=by rw[hF];rfl
  clear hF;have m:=bJ w4 [];have k:=m.out.k;go_wp2_with ((with_reducible first|refine cU ?_|refine wU ?_);clear k m;intro w m k)
  clear k m;go_loopw [10,44] (fun vk vi wr=>∃ i:Nat,i<=l.length/\vi=.int .i64 i/\vk=.int .i64 (((F i).length:Nat):Int)/\Only [] w4 wr) (fun _ vi _=>l.length-(intOf vi).toNat)
  case atStart=>exact⟨0,Nat.zero_le _,rfl,by rw[hF0];rfl,Only.refl _ _⟩
  case round =>
   obtain⟨i,hi,rfl,rfl,ho⟩:=hrel;clear hF0;have O1:=hid ho;have OW:=hid (OO.out.aA ho);by_cases hlt:i<l.length
   ·have hlt2:(i:Int)<(l.length:Int):=by omega
    obtain⟨bk,off,rfl,-⟩:=HV.out.I8 (Only.refl [] wo) hlt;have hgt:=HG.out i hlt;have hss:=HSS.out i hlt;obtain⟨x,hx⟩:∃ x,l[i]=x:=⟨_,rfl⟩
    have HX:=hid (show ∀ w',Only [] wr w'->bk<w'.heap.size/\w'.cell? ⟨bk,off+i*9,none⟩=some (.int .i64 x.at_)/\w'.cell? ⟨bk,off+i*9+1,none⟩=some (.int .i64 x.nd)/\w'.cell? ⟨bk,off+i*9+2,none⟩=some (.int .i64 x.raw)/\w'.cell? ⟨bk,off+i*9+3,none⟩=some (.int .i64 x.clk)/\w'.cell? ⟨bk,off+i*9+4,none⟩=some (.int .i64 x.stp)/\w'.cell? ⟨bk,off+i*9+5,none⟩=some (.int .i64 x.lo)/\w'.cell? ⟨bk,off+i*9+6,none⟩=some (.int .i64 x.hi)/\w'.cell? ⟨bk,off+i*9+7,none⟩=some (.int .i64 x.kd)/\w'.cell? ⟨bk,off+i*9+8,none⟩=some (.int .i64 x.vl) from fun w' o=>by
     obtain⟨b',o',e,q⟩:=HV.out.I8 (OW.out.aA o) hlt
     cases e
     rw[hx] at q;exact q)
    rw[hx] at hgt hss;clear hx ho HG HSS HTL;have hl6:=HL.out;have ei:IntKind.i64.wrap ((i:Int)+1)=((i+1:Nat):Int):=by rw[IntKind.wrap_i64];omega
    by_cases hn:x.nd=nd
    ·replace hgt:=hgt hn
     rw[if_pos hn] at hss;have hsl:(F (i+1)).length=(F i).length+1:=by rw[hss,List.length_append,List.length_singleton]
     clear hss;have HSL:=hid hsl;have hko:=HOF.out x (List.mem_of_getElem? hgt);have hkl:=(List.getElem?_eq_some_iff.1 hgt).1;obtain⟨nk,hnk⟩:=QS fl false _ hkl;rw[(List.getElem?_eq_some_iff.1 hgt).2] at hnk;have hmp:(fl.map (fun x=>x.clk-x.at_))[(F i).length]? = some (x.clk-x.at_):=by rw[List.getElem?_map,hgt];rfl
     obtain⟨b1,o1,rfl,hz1⟩:=WY HV1.out hmp;obtain⟨b2,o2,rfl,hz2⟩:=WY HV2.out hnk;have heb:=@err_bnd x;obtain⟨a0,a1,c0,c1',-⟩:=hko;obtain⟨kn,hkn⟩:∃ kn,(F i).length=kn:=⟨_,rfl⟩;rw[hkn] at hz1 hz2 hkl hsl |-;rw[hkn] at HSL;clear hgt hnk hmp hkn;obtain⟨x0,x1,x2,x3,x4,x5,x6,x7,x8⟩:=x;dsimp only at HX hz1 hz2 heb a0 a1 c0 c1' hn;obtain⟨bv,hbv⟩:∃ bv,rV ⟨x0,x1,x2,x3,x4,x5,x6,x7,x8⟩=bv:=⟨_,rfl⟩;rw[hbv] at hz2 heb;have HQ:Hid (-9223372036854775808<x3-x0/\x3-x0<9223372036854775808):=hid (by omega);obtain⟨q,hq⟩:∃ q,x3-x0=q:=⟨_,rfl⟩;rw[hq] at hz1 heb HQ
     have HZ:=hid (show ∀ w',Only [] wr w'->(bk<w'.heap.size/\w'.cell? ⟨bk,off+i*9,none⟩=some (.int .i64 x0)/\w'.cell? ⟨bk,off+i*9+1,none⟩=some (.int .i64 x1)/\w'.cell? ⟨bk,off+i*9+2,none⟩=some (.int .i64 x2)/\w'.cell? ⟨bk,off+i*9+3,none⟩=some (.int .i64 x3)/\w'.cell? ⟨bk,off+i*9+4,none⟩=some (.int .i64 x4)/\w'.cell? ⟨bk,off+i*9+5,none⟩=some (.int .i64 x5)/\w'.cell? ⟨bk,off+i*9+6,none⟩=some (.int .i64 x6)/\w'.cell? ⟨bk,off+i*9+7,none⟩=some (.int .i64 x7)/\w'.cell? ⟨bk,off+i*9+8,none⟩=some (.int .i64 x8))/\b1<w'.heap.size/\w'.cell? ⟨b1,o1+kn,none⟩=some (.int .i64 q)/\b2<w'.heap.size/\w'.cell? ⟨b2,o2+kn*3,none⟩=some (.int .i64 x0)/\w'.cell? ⟨b2,o2+kn*3+1,none⟩=some (.int .i64 nk)/\w'.cell? ⟨b2,o2+kn*3+2,none⟩=some (.int .i64 bv) from fun w' o=>by
      have r1:=hz1 w' (O1.out.aA o);have r2:=hz2 w' (O1.out.aA o);exact⟨HX.out w' o,r1.1,by simpa using r1.2 0 _ rfl,r2.1,r2.2 0 _ rfl,r2.2 1 _ rfl,r2.2 2 _ rfl⟩)
     have eq1:IntKind.i64.wrap (-q)= -q:=by have:=HQ.out;rw[IntKind.wrap_i64];omega
     have ek:IntKind.i64.wrap ((kn:Int)+1)=((kn+1:Nat):Int):=by rw[IntKind.wrap_i64];omega
     have dk:decide ((fl.length:Int)<=(kn:Int))=false:=dD (by omega);have dk2:(kn:Int)<(fl.length:Int):=by omega
     have en:(x1 != nd)=false:=by simpa using hn
     clear hz1 hz2 hbv hq HX hn hsl;by_cases g1:x0<x5
     ·have d1:decide (x0<x5)=true:=decide_eq_true g1
      clear heb;have m:=bJ wr [];have k:=m.out.k;have c:=HZ.out wr (Only.refl _ _);go_wp2_with (first|((with_reducible first|refine cM (HAW.out _ (OW.out.aA gO)) ?_|refine cU ?_|refine wU ?_);clear k m c;intro w m k;have c:=HZ.out w m.out.only)|((with_reducible refine lE (fun w o g k K hK=>⟨rfl,?_⟩));simp[results,Tryz.results7,go_sem];refine hK _ ?_;exact⟨rfl,OW.out.aA o⟩))
     have d1:decide (x0<x5)=false:=decide_eq_false g1;by_cases g2:x6<x0
     ·have d2:decide (x6<x0)=true:=decide_eq_true g2
      clear heb;have m:=bJ wr [];have k:=m.out.k;have c:=HZ.out wr (Only.refl _ _);go_wp2_with (first|((with_reducible first|refine cM (HAW.out _ (OW.out.aA gO)) ?_|refine cU ?_|refine wU ?_);clear k m c;intro w m k;have c:=HZ.out w m.out.only)|((with_reducible refine lE (fun w o g k K hK=>⟨rfl,?_⟩));simp[results,Tryz.results7,go_sem];refine hK _ ?_;exact⟨rfl,OW.out.aA o⟩))
     have d2:decide (x6<x0)=false:=decide_eq_false g2;replace heb:=heb (by omega) (by omega);have d3:decide (bv<q)=false:=dD (by omega);have d4:decide (bv < -q)=false:=dD (by omega);have ee:(x0 != x0)=false:=by simp
     clear heb g1 g2;have m:=bJ wr [];have k:=m.out.k;have c:=HZ.out wr (Only.refl _ _);go_wp2_with (first|((with_reducible refine rG (id:=16) [0,1,2,3,4,5,6,7,8,9,10,11,12,13,14,15,16,17,18,19,20,21,22,23,24,25,26,27,28,29,30,31,32,33,34,35,36,37,38,39,40,41,42,43,44] [] (by kernel_rfl) (by kernel_rfl) ?_);simp only[pick,List.map_cons,List.map_nil,List.getD_cons_succ,List.getD_cons_zero];(repeat' (first|go_big_quiet_step (fail)|(refine wpQuiet_step (fun K hK=>?_);go_simp;(first|(refine hK _ ?_;clear hK K)|(split<;>(refine hK _ ?_;clear hK K))))));all_goals (refine wpQuiet_nil ?_;clear k m c;intro w m k;have c:=HZ.out w m.out.only))|((with_reducible first|refine cU ?_|refine wU ?_);clear k m c;intro w m k;have c:=HZ.out w m.out.only)|(go_roundw;(case rel=>exact⟨i+1,by omega,by go_num,by rw[HSL.out];go_num,O1.out.aA gO⟩);(case measure=>first|(simp[intOf];done)|(simp[intOf];omega))))
    ·rw[if_neg hn,List.append_nil] at hss
     have HSL:=hid (show (F (i+1)).length=(F i).length by rw[hss]);have en:(x.nd != nd)=true:=by simpa using hn
     clear hgt hss;generalize (F i).length=kn at HSL |-;clear hn;obtain⟨x0,x1,x2,x3,x4,x5,x6,x7,x8⟩:=x;dsimp only at HX en;have m:=bJ wr [];have k:=m.out.k;have c:=HX.out wr (Only.refl _ _);go_wp2_with (first|((with_reducible first|refine cU ?_|refine wU ?_);clear k m c;intro w m k;have c:=HX.out w m.out.only)|(go_roundw;(case rel=>exact⟨i+1,by omega,by go_num,by rw[HSL.out],O1.out.aA gO⟩);(case measure=>first|(simp[intOf];done)|(simp[intOf];omega))))
   ·obtain rfl:i=l.length:=by omega
    have hlt2:decide ((l.length:Int)<(l.length:Int))=false:=by simp
    rw[HTL.out];have e1:((fl.length:Int) == (fl.length:Int))=true:=by simp
    have m:=bJ wr [];have k:=m.out.k;clear ho;go_wp2_with (first|((with_reducible first|refine cM (HAW.out _ (OW.out.aA gO)) ?_|refine cU ?_|refine wU ?_);clear k m;intro w m k)|((with_reducible refine lE (fun w o g k K hK=>⟨rfl,?_⟩));simp[results,Tryz.results7,go_sem];refine hK _ ?_;exact⟨rfl,OW.out.aA o⟩))
end Go.Proofs.YtppjhbjmfkiejaaGreat
