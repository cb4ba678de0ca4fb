/- Puc Pu5 -/
import Derived.Test.YthbgcpfklmlnjaaGreatFOg
import Derived.Test.YthbgcpfklmlnjaaGreatFPu1
import Derived.Test.YthbgcpfklmlnjaaGreatFPu3
namespace Go.Proofs.YthbgcpfklmlnjaaGreat
set_option linter.all false
open List (getD_cons_succ getD_cons_zero map_cons map_nil)
set_option maxRecDepth 100000
set_option maxHeartbeats 2500000
open Go.RowKit
open Go.Lib (hid)
section
open Go.ChangeShapes Go.WideShapes Go.ChangeAt
theorem rLnk {w:World} (s:dU) (a b:Int) (hs:s.Ok w) :
  Calls Tryz.prog 46 #[fZ s,.int .i64 a,.int .i64 b] w fun e w'=>e=.returned (BM (DL s.sc.lk a b))/\Only [] w w':=by
 obtain⟨nd,ls,ft,un,sd,pn,cn,p,cap,pf,cf⟩:=s;have hn:=hs.ll;have HV:=hid hs.lk;clear hs;show Calls _ _ _ _ (fun e w'=>e=.returned (BM (DL (ls.map dQ.l) a b))/\_)
 unfold fZ;dsimp only at hn HV |-;obtain⟨res,hres⟩:∃ res,res=DL (ls.map dQ.l) a b:=⟨_,rfl⟩;rw[<-hres];have HRS:=hid hres;clear hres;go_enter Tryz.func46,Tryz.ntmps46
 go_upto_region 1 with (fail)
 refine aF (G:=fun w0=>Code.wp _ _ _ _ w0) ?_;intro w1 hb1 ho1 hs1;have B1:=hid hb1;have O1:=hid ho1;clear hb1 ho1 hs1;go_wp2;go_loopw [8] (fun vi wr=>LnI w1 a b ls vi wr) (fun vi _=>ls.length-(intOf vi).toNat)
 case atStart=>exact⟨0,Nat.zero_le _,rfl,rfl,Only.refl _ _⟩
 case round =>
  obtain⟨k,hk,rfl,hln,ho⟩:=hrel;have G:=hid (ho.got B1.out (by simp));have HL:=hid (HRS.out.trans hln);have HL0:=hid hln;have OO:=hid ho;have OA:=hid (O1.out.aB ho);clear hln ho;have g1:=aA G.out 1;have l0:=aD G.out;by_cases hlt:k<ls.length
  ·obtain⟨bk,off,hp,lb,c0,c1,c2,c3,c4,c5,c6,c7,c8⟩:=HV.out.lk OA.out hlt
   subst hp;have hdr:=EF (a:=a) (b:=b) (l:=ls.map dQ.l) (k:=k) (by simpa using hlt);rw[show (ls.map dQ.l).getD k yG=(ls.getD k iE).l by simp[List.getD_eq_getElem?_getD,hlt]] at hdr;generalize ls.getD k iE=c at c0 c1 c2 c3 c4 c5 c6 c7 c8 hdr;have HD:=hid hdr;clear hdr;by_cases h1:c.l.A=a/\c.l.B=b
   ·have HQ:Hid (res=some (k,false)):=hid (by rw[HL.out,HD.out,if_pos h1])
    have ax:(c.l.A == a)=true:=by simp[h1.1]
    have bx:(c.l.B == b)=true:=by simp[h1.2]
    clear h1;go_wp2;refine bodyPost_ret (v:=.tuple #[.int .i64 k,.int .i64 0]) (by simp[results,Tryz.results46,go_sem]) rfl ⟨by rw[HQ.out];rfl,OA.out⟩
   ·by_cases h2:c.l.A=b/\c.l.B=a
    ·have HQ:Hid (res=some (k,true)):=hid (by rw[HL.out,HD.out,if_neg h1,if_pos h2])
     have ay:(c.l.A == b)=true:=by simp[h2.1]
     have bY:(c.l.B == a)=true:=by simp[h2.2]
     by_cases h3:c.l.A=a
     focus
      have ax:(c.l.A == a)=true:=by simp[h3]
      have bx:(c.l.B == b)=false:=by rw[beq_eq_false_iff_ne];exact fun q=>h1 ⟨h3,q⟩
     rotate_left
     focus
      have ax:(c.l.A == a)=false:=by simp[h3]
     rotate_left
     all_goals
      clear h1 h2 h3;go_wp2;refine bodyPost_ret (v:=.tuple #[.int .i64 k,.int .i64 1]) (by simp[results,Tryz.results46,go_sem]) rfl ⟨by rw[HQ.out];rfl,OA.out⟩
    ·have HQ:=hid (HL0.out.trans (by rw[HD.out,if_neg h1,if_neg h2]))
     have hAB:∃ x1 x2 x3 x4:Bool,(c.l.A == a)=x1/\(c.l.B == b)=x2/\(c.l.A == b)=x3/\(c.l.B == a)=x4/\(x1 && x2)=false/\(x3 && x4)=false:=by
      refine⟨_,_,_,_,rfl,rfl,rfl,rfl,?_,?_⟩
      ·rw[Bool.eq_false_iff];intro q;rw[Bool.and_eq_true,beq_iff_eq,beq_iff_eq] at q;exact h1 q
      ·rw[Bool.eq_false_iff];intro q;rw[Bool.and_eq_true,beq_iff_eq,beq_iff_eq] at q;exact h2 q
     clear h1 h2;obtain⟨x1,x2,x3,x4,e1,e2,e3,e4,q1,q2⟩:=hAB
     cases x1<;>cases x3
     rotate_left
     focus
      obtain rfl:x4=false:=by simpa using q2
     rotate_left
     focus
      obtain rfl:x2=false:=by simpa using q1
     rotate_left
     focus
      obtain rfl:x2=false:=by simpa using q1
      obtain rfl:x4=false:=by simpa using q2
     rotate_left
     all_goals
      clear q1 q2;go_wp2;go_roundw
      case rel=>exact⟨k+1,by omega,by go_num,HQ.out,OO.out⟩
      case measure=>first|(simp[intOf];done)|(simp[intOf];omega)
  ·obtain rfl:k=ls.length:=by omega
   have HQ:Hid (res=none):=hid (by rw[HL.out,List.drop_of_length_le (by simp)];rfl);go_wp2;refine bodyPost_ret (v:=.tuple #[.int .i64 (-1),.int .i64 0]) (by simp[results,Tryz.results46,go_sem]) rfl ⟨by rw[HQ.out];rfl,OA.out⟩
end
section
def T9 (L:List Lk) (m:Int):Int:=fe (tY L m) L.length 0
def TwI (w:World) (L:List Lk) (x:Lk) (k:Nat) (vi:Value) (wr:World):Prop:=
 ∃ j:Nat,j<=k/\vi=.int .i64 j/\twin ((L.take k).take j) x=false/\Only [] w wr
theorem rLinks {w:World} {p:Option Addr} {n cap:Nat} {ls:List dQ} (m:Int) (hv:aS lkC 9 w p n cap ls) (hok:∀ x∈ls,x.Ok w) (hn:n<=100000) :
  Calls Tryz.prog 27 #[.slice p n cap,.int .i64 m] w fun e w'=>e=.returned (.int .i64 (T9 (ls.map dQ.l) m))/\Only [] w w':=by
 have hl:=hv.len;subst hl;have HV:=hid hv;have HO:=hid hok;clear hv hok;have hE:T9 (ls.map dQ.l) m=fe (tY (ls.map dQ.l) m) ls.length 0:=by unfold T9;rw[List.length_map]
 generalize T9 (ls.map dQ.l) m=res at hE |-;have HE:=hid hE;clear hE;go_enter Tryz.func27,Tryz.ntmps27
 go_wp2;go_loopw [5] (fun vi wr=>FeI w (tY (ls.map dQ.l) m) ls.length vi wr) (fun vi _=>ls.length-(intOf vi).toNat)
 case atStart=>exact⟨0,Nat.zero_le _,rfl,rfl,Only.refl _ _⟩
 case round =>
  obtain⟨k,hk,rfl,hfe,ho⟩:=hrel;have HF:=hid hfe;have OO:=hid ho;clear hfe ho;by_cases hlt:k<ls.length
  ·obtain ⟨bk,off,hp,lb,c0,c1,c2,c3,c4,c5,c6,c7,c8⟩:=HV.out.lk OO.out hlt
   have HXO:=hid (HO.out _ (bC iE hlt));have hle:tY (ls.map dQ.l) m k=clE (ls.getD k iE).l ((ls.map dQ.l).take k) m:=by rw[YM,lk_at hlt]
   have HLN:Hid (tY (ls.map dQ.l) m k≠0->res=tY (ls.map dQ.l) m k):=hid (fun h=>by rw[HE.out,HF.out,mG hlt h]);have HLY:Hid (tY (ls.map dQ.l) m k=0->fe (tY (ls.map dQ.l) m) ls.length 0=fe (tY (ls.map dQ.l) m) (ls.length-(k+1)) (k+1)):=hid (fun h=>HF.out.trans (iQ hlt h));generalize ls.getD k iE=x at c0 c1 c2 c3 c4 c5 c6 c7 c8 HXO hle;obtain⟨⟨A,B,d0,d1,v0,v1,lo,sd,ch⟩,pc,cc⟩:=x;have HP:=hid (fun (w':World) (ho:Only [] w w')=>rLink (n:=ch.length) ⟨A,B,d0,d1,v0,v1,lo,sd,ch⟩ (HXO.out.row.kept ho) HXO.out.len);dsimp only at HP c0 c1 c2 c3 c4 c5 c6 c7 c8 hle;unfold MN at HP;dsimp only at HP;have hle2:tY (ls.map dQ.l) m k=if bI A 0 (m-1)=true/\bI B 0 (m-1)=true then (if B<=A then 12 else if twin ((ls.map dQ.l).take k) ⟨A,B,d0,d1,v0,v1,lo,sd,ch⟩=true then 10 else bV ⟨A,B,d0,d1,v0,v1,lo,sd,ch⟩) else 3:=hle
   clear hle;generalize tY (ls.map dQ.l) m k=er at HLN HLY hle2;have HC:=hid hle2;clear hle2;subst hp;go_upto_region 5 with (fail)
   refine aF (G:=fun w0=>Code.wp _ _ _ _ w0) ?_;intro w1 hb1 ho1 hs1;have B1:=hid hb1;have O1:=hid (OO.out.aB ho1);clear hb1 ho1 hs1 c0 c1 c2 c3 c4 c5 c6 c7 c8 lb;have g0:=aA B1.out 0;have g1:=aA B1.out 1;have l0:=aD B1.out;by_cases hA:bI A 0 (m-1)=true
   ·obtain⟨hA0,hA1⟩:=bH.1 hA
    have hAx:decide (A<0)=false:=by simp;omega
    have hAy:decide (A >= m)=false:=by simp;omega
    have hAz:decide (m<=A)=false:=by simp;omega
    by_cases hB:bI B 0 (m-1)=true
    ·obtain⟨hB0,hB1⟩:=bH.1 hB
     have hBx:decide (B<0)=false:=by simp;omega
     have hBy:decide (B >= m)=false:=by simp;omega
     have hBz:decide (m<=B)=false:=by simp;omega
     by_cases ho:B<=A
     ·have ox:decide (A >= B)=true:=dF ho
      have oy:decide (B<=A)=true:=dF ho;have h12:er=12:=by rw[HC.out,if_pos ⟨hA,hB⟩,if_pos ho]
      have HQ:Hid (res=12):=hid ((HLN.out (by rw[h12];decide)).trans h12);clear ho hA hB h12;go_wp2;go_ret
      exact⟨by rw[HQ.out];rfl,O1.out⟩
     ·have ox:decide (A >= B)=false:=bR ho
      have oy:decide (B<=A)=false:=bR ho;have HR:Hid (er=if twin ((ls.map dQ.l).take k) ⟨A,B,d0,d1,v0,v1,lo,sd,ch⟩=true then 10 else bV ⟨A,B,d0,d1,v0,v1,lo,sd,ch⟩):=hid (by rw[HC.out,if_pos ⟨hA,hB⟩,if_neg ho]);clear ho hA hB;go_wp2;clear hAx hAy hAz hBx hBy hBz ox oy hA0 hA1 hB0 hB1;go_loopw [7] (fun vi wr=>TwI w1 (ls.map dQ.l) ⟨A,B,d0,d1,v0,v1,lo,sd,ch⟩ k vi wr) (fun vi _=>k-(intOf vi).toNat)
      case atStart=>exact⟨0,Nat.zero_le _,rfl,rfl,Only.refl _ _⟩
      case round =>
       clear g0 g1 l0;obtain⟨j,hj,rfl,htw,ho⟩:=hrel;have HT:=hid htw;have OI:=hid ho;have O2:=hid (O1.out.aB ho);have B2:=hid (ho.got B1.out (by simp));clear htw ho;have g0:=aA B2.out 0;have g1:=aA B2.out 1;have l0:=aD B2.out;by_cases hlj:j<k
       ·have hjl:j<ls.length:=by omega
        obtain⟨bk',off',hp,lb,c0,c1,c2,c3,c4,c5,c6,c7,c8⟩:=HV.out.lk O2.out hjl
        cases hp
        clear c2 c3 c4 c5 c6 c7 c8;have hgk:((ls.map dQ.l).take k)[j]? = some (ls.getD j iE).l:=by rw[List.getElem?_take,if_pos hlj,List.getElem?_map,getD_some iE hjl];rfl
        have htk:twin (((ls.map dQ.l).take k).take (j+1)) ⟨A,B,d0,d1,v0,v1,lo,sd,ch⟩=(decide ((ls.getD j iE).l.A=A) && decide ((ls.getD j iE).l.B=B)):=by
         rw[List.take_add_one,hgk];have:=HT.out;unfold twin at this |-;simp only[Option.toList_some,List.any_append,this,Bool.false_or,List.any_cons,List.any_nil,Bool.or_false]
        have HTF:Hid (twin (((ls.map dQ.l).take k).take (j+1)) ⟨A,B,d0,d1,v0,v1,lo,sd,ch⟩=true->res=10):=hid (fun h=>by
         have h10:er=10:=by
          rw[HR.out,if_pos];unfold twin at h |-;rw[List.any_eq_true] at h |-;obtain⟨y,hy,hq⟩:=h;exact⟨y,List.mem_of_mem_take hy,hq⟩
         exact (HLN.out (by rw[h10];decide)).trans h10)
        generalize (ls.getD j iE).l=c at c0 c1 htk;have HTK:=hid htk;clear hgk htk;have hj1:(j:Int)<(ls.length:Int):=by omega
        by_cases ha:c.A=A
        ·have ax:(c.A == A)=true:=by simp[ha]
         by_cases hb:c.B=B
         ·have bx:(c.B == B)=true:=by simp[hb]
          have HQ:Hid (res=10):=hid (HTF.out (by rw[HTK.out,ha,hb];simp));clear ha hb;go_wp2_with fail
          go_quiet (fail)
          go_wp2;go_ret
          exact⟨by rw[HQ.out];rfl,O2.out.aB (dY _ _)⟩
         ·have bx:(c.B == B)=false:=by simp[hb]
          have HQ:=hid (HTK.out.trans (by rw[bR hb,Bool.and_false]));clear ha hb;go_wp2_with fail
          go_quiet (fail)
          go_wp2;go_roundw
          case rel=>exact⟨j+1,by omega,by go_num,HQ.out,OI.out.aB (dY _ _)⟩
          case measure=>first|(simp[intOf];done)|(simp[intOf];omega)
        ·have ax:(c.A == A)=false:=by simp[ha]
         have HQ:=hid (HTK.out.trans (by rw[bR ha,Bool.false_and]));clear ha;go_wp2_with fail
         go_quiet (fail)
         go_wp2;go_roundw
         case rel=>exact⟨j+1,by omega,by go_num,HQ.out,OI.out.aB (dY _ _)⟩
         case measure=>first|(simp[intOf];done)|(simp[intOf];omega)
       ·obtain rfl:j=k:=by omega
        have HQ:Hid (er=bV ⟨A,B,d0,d1,v0,v1,lo,sd,ch⟩):=hid (by
         have:=HT.out;rw[List.take_of_length_le (List.length_take_le _ _)] at this;rw[HR.out,if_neg (by rw[this];simp)])
        have g2:=aA B2.out 2;have g3:=aA B2.out 3;have g4:=aA B2.out 4;have g5:=aA B2.out 5;have g6:=aA B2.out 6;have g7:=aA B2.out 7;have g8:=aA B2.out 8;go_wp2_with fail
        refine (HP.out wr O2.out).mono ?_;rintro e w5 ⟨rfl,ho5⟩;rw[<-HQ.out];have O5:=hid (O2.out.aB ho5);clear ho5 g0 g1 g2 g3 g4 g5 g6 g7 g8 l0;by_cases h0:er=0
        ·have HY:=hid (HLY.out h0)
         have ex:(er != 0)=false:=by simp[h0]
         have ey:(er == 0)=true:=by simp[h0]
         clear h0;go_wp2;go_roundw
         case rel=>exact⟨j+1,by omega,by go_num,HY.out,O5.out⟩
         case measure=>first|(simp[intOf];done)|(simp[intOf];omega)
        ·have HY:=hid (HLN.out h0)
         have ex:(er != 0)=true:=by simp[h0]
         have ey:(er == 0)=false:=by simp[h0]
         clear h0;go_wp2;go_ret
         exact⟨by rw[HY.out];rfl,O5.out⟩
    ·have h3:er=3:=by rw[HC.out,if_neg (fun q=>hB q.2)]
     have HQ:Hid (res=3):=hid ((HLN.out (by rw[h3];decide)).trans h3);rcases dP hB with hq|⟨hq,hr⟩
     ·have hBx:decide (B<0)=true:=by simp;omega
      clear hA hB;go_wp2;go_ret
      exact⟨by rw[HQ.out];rfl,O1.out⟩
     ·have hBx:decide (B<0)=false:=by simp;omega
      have hBy:decide (B >= m)=true:=by simp;omega
      have hBz:decide (m<=B)=true:=by simp;omega
      clear hA hB;go_wp2;go_ret
      exact⟨by rw[HQ.out];rfl,O1.out⟩
   ·have h3:er=3:=by rw[HC.out,if_neg (fun q=>hA q.1)]
    have HQ:Hid (res=3):=hid ((HLN.out (by rw[h3];decide)).trans h3);rcases dP hA with hq|⟨hq,hr⟩
    ·have hAx:decide (A<0)=true:=by simp;omega
     clear hA;go_wp2;go_ret
     exact⟨by rw[HQ.out];rfl,O1.out⟩
    ·have hAx:decide (A<0)=false:=by simp;omega
     have hAy:decide (A >= m)=true:=by simp;omega
     have hAz:decide (m<=A)=true:=by simp;omega
     clear hA;go_wp2;go_ret
     exact⟨by rw[HQ.out];rfl,O1.out⟩
  ·have HQ:Hid (res=0):=hid (by rw[HE.out,HF.out,iR (by omega)])
   obtain rfl:k=ls.length:=by omega
   go_wp2;go_ret
   exact⟨by rw[HQ.out];rfl,OO.out⟩
def JnE (N:List Nd) (L:List Lk) (m:Nat):Bool:=decide (fe (fun i=>zG L i (N.getD i nd0)) m 0=0)
theorem rJoined {w:World} (s:dU) (hs:s.Ok w) :
  Calls Tryz.prog 28 #[fZ s] w fun e w'=>e=.returned (.bool (JnE (s.nd.map lM.n) (s.lk.map dQ.l) s.nd.length))/\Only [] w w':=by
 have hlnk:=fun (a b:Int) (w':World) (ho:Only [] w w')=>rLnk s a b (hs.kept ho);obtain⟨ns,ls,ft,un,sd,pn,cn,pl,cl,pf,cf⟩:=s;have hn:=hs.ln;have HN:=hid hs.nd;have HNO:=hid hs.ndo;clear hs;unfold fZ at hlnk |-;dsimp only[dU.sc] at hlnk hn HN HNO |-;have hE:JnE (ns.map lM.n) (ls.map dQ.l) ns.length=decide (fe (fun i=>zG (ls.map dQ.l) i ((ns.map lM.n).getD i nd0)) ns.length 0=0):=rfl;generalize JnE (ns.map lM.n) (ls.map dQ.l) ns.length=res at hE |-;have HE:=hid hE;have HLNK:=hid hlnk;clear hE hlnk;go_enter Tryz.func28,Tryz.ntmps28
 go_upto_region 1 with (fail)
 refine aF (G:=fun w0=>Code.wp _ _ _ _ w0) ?_;intro w3 hb1 ho1 hs1;have B3:=hid hb1;have O3:=hid ho1;clear hb1 ho1 hs1;go_wp2;go_loopw [3] (fun vi wr=>FeI w3 (fun i=>zG (ls.map dQ.l) i ((ns.map lM.n).getD i nd0)) ns.length vi wr) (fun vi _=>ns.length-(intOf vi).toNat)
 case atStart=>exact⟨0,Nat.zero_le _,rfl,rfl,Only.refl _ _⟩
 case round =>
  obtain⟨k,hk,rfl,hfe,ho⟩:=hrel;have HF:=hid hfe;have OO:=hid ho;have OA:=hid (O3.out.aB ho);have BB:=hid (ho.got B3.out (by simp));clear hfe ho;have g0:=aA BB.out 0;have g1:=aA BB.out 1;have g2:=aA BB.out 2;have g3:=aA BB.out 3;have g4:=aA BB.out 4;have l0:=aD BB.out;by_cases hlt:k<ns.length
  ·have HXO:=hid (HNO.out _ (bC aU hlt))
   have HJN:Hid (zG (ls.map dQ.l) k (ns.getD k aU).n=11->res=false):=hid (fun h=>by
    have h2:=HF.out.trans (mG hlt (by rw[pG hlt,h];decide));try dsimp only at h2
    rw[pG hlt,h] at h2;rw[HE.out,h2];rfl)
   have HJY:Hid (zG (ls.map dQ.l) k (ns.getD k aU).n=0->fe (fun i=>zG (ls.map dQ.l) i ((ns.map lM.n).getD i nd0)) ns.length 0=fe (fun i=>zG (ls.map dQ.l) i ((ns.map lM.n).getD i nd0)) (ns.length-(k+1)) (k+1)):=hid (fun h=>HF.out.trans (iQ hlt (by rw[pG hlt];exact h)));have HCL:=hid (fun (w':World) (ho:Only [] w w')=>HN.out.nd ho hlt);have hxr:=HXO.out.ren;generalize ns.getD k aU=x at HXO HJN HJY HCL hxr;go_wp2;clear g0 g1 g2 g3 g4 l0;go_loopw [4] (fun vi wx=>AlI wr (fun v=>(DL (ls.map dQ.l) k v).isSome) x.n.sv vi wx) (fun vi _=>x.n.sv.length-(intOf vi).toNat)
   case atStart=>exact⟨0,Nat.zero_le _,rfl,rfl,Only.refl _ _⟩
   case round =>
    obtain⟨j,hj,rfl,hall,ho⟩:=hrel;have HA:=hid hall;have OO':=hid (OO.out.aB ho);have OA':=hid (OA.out.aB ho);have BB':=hid (ho.got BB.out (by simp));have OI:=hid ho;clear hall ho;obtain⟨bn,offn,hpn,lbn,n0,n1,n2,n3,n4,n5,n6⟩:=HCL.out _ OA'.out;subst hpn;clear n0 n1 n2 n3 n4 n5;have g0:=aA BB'.out 0;have g1:=aA BB'.out 1;have g2:=aA BB'.out 2;have g3:=aA BB'.out 3;have g4:=aA BB'.out 4;have l0:=aD BB'.out;by_cases hlj:j<x.n.sv.length
    ·obtain⟨bk,off,hp,c0,lb⟩:=(HXO.out.srv).it OA'.out hlj
     have HTK:=hid (vQ (P:=fun v=>(DL (ls.map dQ.l) k v).isSome) 0 hlj HA.out);have HBD:Hid ((DL (ls.map dQ.l) k (x.n.sv.getD j 0)).isSome=false->zG (ls.map dQ.l) k x.n=11):=hid (fun h=>by unfold zG;rw[if_neg (IG (P:=fun v=>(DL (ls.map dQ.l) k v).isSome) 0 hlj h)]);generalize x.n.sv.getD j 0=v at c0 HTK HBD;rw[hp] at n6;have hlv:=fun (w':World) (ho:Only [] w w')=>HLNK.out k v w' ho;generalize DL (ls.map dQ.l) k v=o at HTK HBD hlv;rcases o with _|⟨i,d⟩
     ·have HQ:Hid (res=false):=hid (HJN.out (HBD.out rfl))
      unfold BM at hlv;dsimp only at hlv;have HLV:=hid hlv;clear hlv;go_upto_region 7 with (fail)
      refine aL [0,1,2,3,4,5,6,7,8,9,10,11,12,13,14,15,16] [] (by kernel_rfl) (by kernel_rfl) ?_;simp only[pick,map_cons,map_nil,getD_cons_succ,getD_cons_zero];iterate 11 (refine wpQuiet_step (fun K hK=>?_);go_simp;refine hK _ ?_;clear hK K)
      refine aX (by kernel_rfl) 46 #[.agg #[.slice (some ⟨bn,offn,none⟩) ns.length cn,.slice pl ls.length cl,.slice pf ft.length cf,.int .i64 un,.int .u64 sd],.int .i64 k,.int .i64 v] (fun _=>by kernel_rfl) (.tuple #[.int .i64 (-1),.int .i64 0]) (bM fun w' ho'=>HLV.out w' (OA'.out.aB ho')) ?_;iterate 5 (refine wpQuiet_step (fun K hK=>?_);go_simp;refine hK _ ?_;clear hK K)
      refine wpQuiet_nil ?_;intro w6 hw6;have O7:=hid (OI.out.aB (aI hw6));have OC:=hid (OA'.out.aB (aI hw6));clear hw6 g0 g1 g2 g3 g4 l0 c0 lb n6 lbn;go_wp2;go_ret
      exact⟨by rw[HQ.out];rfl,OC.out⟩
     ·have ix:decide ((i:Int)<0)=false:=bR (by omega)
      have HQ:=hid (HTK.out.trans rfl)
      cases d
      focus
       unfold BM at hlv;dsimp only at hlv;have HLV:=hid hlv;clear hlv;go_upto_region 7 with (fail)
       refine aL [0,1,2,3,4,5,6,7,8,9,10,11,12,13,14,15,16] [] (by kernel_rfl) (by kernel_rfl) ?_;simp only[pick,map_cons,map_nil,getD_cons_succ,getD_cons_zero];iterate 11 (refine wpQuiet_step (fun K hK=>?_);go_simp;refine hK _ ?_;clear hK K)
       refine aX (by kernel_rfl) 46 #[.agg #[.slice (some ⟨bn,offn,none⟩) ns.length cn,.slice pl ls.length cl,.slice pf ft.length cf,.int .i64 un,.int .u64 sd],.int .i64 k,.int .i64 v] (fun _=>by kernel_rfl) (.tuple #[.int .i64 i,.int .i64 0]) (bM fun w' ho'=>HLV.out w' (OA'.out.aB ho')) ?_
      rotate_left
      focus
       unfold BM at hlv;dsimp only at hlv;have HLV:=hid hlv;clear hlv;go_upto_region 7 with (fail)
       refine aL [0,1,2,3,4,5,6,7,8,9,10,11,12,13,14,15,16] [] (by kernel_rfl) (by kernel_rfl) ?_;simp only[pick,map_cons,map_nil,getD_cons_succ,getD_cons_zero];iterate 11 (refine wpQuiet_step (fun K hK=>?_);go_simp;refine hK _ ?_;clear hK K)
       refine aX (by kernel_rfl) 46 #[.agg #[.slice (some ⟨bn,offn,none⟩) ns.length cn,.slice pl ls.length cl,.slice pf ft.length cf,.int .i64 un,.int .u64 sd],.int .i64 k,.int .i64 v] (fun _=>by kernel_rfl) (.tuple #[.int .i64 i,.int .i64 1]) (bM fun w' ho'=>HLV.out w' (OA'.out.aB ho')) ?_
      rotate_left
      all_goals
       iterate 5 (refine wpQuiet_step (fun K hK=>?_);go_simp;refine hK _ ?_;clear hK K)
       refine wpQuiet_nil ?_;intro w6 hw6;have O7:=hid (OI.out.aB (aI hw6));have OC:=hid (OA'.out.aB (aI hw6));clear hw6 g0 g1 g2 g3 g4 l0 c0 lb n6 lbn;go_wp2;go_roundw
       case rel=>exact⟨j+1,by omega,by go_num,HQ.out,O7.out⟩
       case measure=>first|(simp[intOf];done)|(simp[intOf];omega)
    ·obtain rfl:j=x.n.sv.length:=by omega
     have hal:=HA.out;rw[List.take_of_length_le (Nat.le_refl _)] at hal;have HQ:=hid (HJY.out (by unfold zG;rw[if_pos hal]));clear hal;go_wp2;go_roundw
     case rel=>exact⟨k+1,by omega,by go_num,HQ.out,OO'.out⟩
     case measure=>first|(simp[intOf];done)|(simp[intOf];omega)
  ·have HX0:fe (fun i=>zG (ls.map dQ.l) i ((ns.map lM.n).getD i nd0)) ns.length 0=0:=by rw[HF.out,iR (by omega)]
   have HQ:Hid (res=true):=hid (by rw[HE.out];exact decide_eq_true HX0);clear HX0;obtain rfl:k=ns.length:=by omega
   go_wp2;go_ret
   exact⟨by rw[HQ.out];rfl,OA.out⟩
theorem V8 {w:World} (s:dU) (hs:s.Ok w) :
  Calls Tryz.prog 15 #[fZ s] w fun e w'=>e=.returned (.int .i64 (mU s.sc))/\Only [] w w':=by
 have hE:=QM s;have hjn:=fun (w':World) (ho:Only [] w w')=>rJoined s (hs.kept ho);generalize mU s.sc=res at hE |-;obtain⟨ns,ls,ft,un,sd,pn,cn,pl,cl,pf,cf⟩:=s;have hn:=hs.ln;have hl:=hs.ll;have hf:=hs.lf;have HN:=hid hs.nd;have HL:=hid hs.lk;have HFT:=hid hs.ft;have HNO:=hid hs.ndo;have HLO:=hid hs.lko;clear hs;unfold fZ at hjn |-;dsimp only[dU.sc] at hjn hE hn hl hf HN HL HFT HNO HLO |-;have HE:=hid hE;have HJN:=hid hjn;clear hE hjn;go_enter Tryz.func15,Tryz.ntmps15
 go_upto_region 1 with (fail)
 refine aF (G:=fun w0=>Code.wp _ _ _ _ w0) ?_;intro w1 hb1 ho1 hs1;have B1:=hid hb1;have O1:=hid ho1;clear hb1 ho1 hs1;have g0:=aA B1.out 0;have g1:=aA B1.out 1;have g2:=aA B1.out 2;have g3:=aA B1.out 3;have g4:=aA B1.out 4;have l0:=aD B1.out;by_cases h0:ns.length=0
 ·have z0:((ns.length:Int) == 0)=true:=by rw[h0];rfl
  have HQ:Hid (res=14):=hid (by rw[HE.out,if_pos h0]);go_wp2;go_ret
  exact⟨by rw[HQ.out];rfl,O1.out⟩
 ·have z0 : ((ns.length:Int) == 0)=false:=by rw[beq_eq_false_iff_ne];omega
  by_cases h24:24<ns.length
  ·have z1:decide ((ns.length:Int) > 24)=true:=dF (by omega)
   have z2:decide (24<(ns.length:Int))=true:=dF (by omega);have HQ:Hid (res=6):=hid (by rw[HE.out,if_neg h0,if_pos (.inl h24)]);go_wp2;go_ret
   exact⟨by rw[HQ.out];rfl,O1.out⟩
  ·have z1 : decide ((ns.length:Int) > 24)=false:=bR (by omega)
   have z2:decide (24<(ns.length:Int))=false:=bR (by omega);by_cases h64:64<ls.length
   ·have z3:decide ((ls.length:Int) > 64)=true:=dF (by omega)
    have z4:decide (64<(ls.length:Int))=true:=dF (by omega);have HQ:Hid (res=6):=hid (by rw[HE.out,if_neg h0,if_pos (.inr h64)]);go_wp2;go_ret
    exact⟨by rw[HQ.out];rfl,O1.out⟩
   ·have z3 : decide ((ls.length:Int) > 64)=false:=bR (by omega)
    have z4:decide (64<(ls.length:Int))=false:=bR (by omega);have H1:Hid (res=KS (ns.map lM.n) (ls.map dQ.l) ns.length ls.length ft un):=hid (by rw[HE.out,if_neg h0,if_neg (fun q=>q.elim h24 h64)]);clear h0 h24 h64;go_wp2;clear z0 z1 z2 z3 z4;go_loopw [3] (fun vi wr=>FeI w1 (fun i=>wI ((ns.map lM.n).getD i nd0) i ns.length) ns.length vi wr) (fun vi _=>ns.length-(intOf vi).toNat)
    case atStart=>exact⟨0,Nat.zero_le _,rfl,rfl,Only.refl _ _⟩
    case round =>
     clear g0 g1 g2 g3 g4 l0;obtain⟨k,hk,rfl,hfe,ho⟩:=hrel;have HF:=hid hfe;have OO:=hid ho;have OA:=hid (O1.out.aB ho);have BB:=hid (ho.got B1.out (by simp));clear hfe ho;have g0:=aA BB.out 0;have g1:=aA BB.out 1;have g2:=aA BB.out 2;have g3:=aA BB.out 3;have g4:=aA BB.out 4;have l0:=aD BB.out;by_cases hlt:k<ns.length
     ·obtain⟨bk,off,hp,lb,c0,c1,c2,c3,c4,c5,c6⟩:=HN.out.nd OA.out hlt
      subst hp;have HXO:=hid (HNO.out _ (bC aU hlt));have HNV:=hid (fun (w':World) (ho:Only [] w w')=>rNode (ns.getD k aU).n k ns.length (HXO.out.seg.kept ho) (HXO.out.srv.kept ho) HXO.out.len HXO.out.ren)
      have HNN:Hid (wI (ns.getD k aU).n k ns.length≠0->res=wI (ns.getD k aU).n k ns.length):=hid (fun h=>by
       have h2:=HF.out.trans (mG hlt (by rw[pG hlt];exact h));try dsimp only at h2
       rw[pG hlt] at h2;rw[H1.out];unfold KS;rw[h2,if_neg h])
      have HNY:Hid (wI (ns.getD k aU).n k ns.length=0->fe (fun i=>wI ((ns.map lM.n).getD i nd0) i ns.length) ns.length 0=fe (fun i=>wI ((ns.map lM.n).getD i nd0) i ns.length) (ns.length-(k+1)) (k+1)):=hid (fun h=>HF.out.trans (iQ hlt (by rw[pG hlt];exact h)));generalize ns.getD k aU=x at c0 c1 c2 c3 c4 c5 c6 HXO HNV HNN HNY;unfold ndV at HNV;generalize wI x.n k ns.length=er at HNV HNN HNY;go_upto_region 8 with (fail)
      refine aL [0,1,2,3,4,5,6,7,8] [9,10] (by kernel_rfl) (by kernel_rfl) ?_;simp only[pick,map_cons,map_nil,getD_cons_succ,getD_cons_zero];iterate 9 (refine wpQuiet_step (fun K hK=>?_);go_simp;refine hK _ ?_;clear hK K)
      refine wpQuiet_nil ?_;intro w6 hw6;have O6:=hid (OO.out.aB (aI hw6));have OB:=hid (OA.out.aB (aI hw6));clear hw6 c0 c1 c2 c3 c4 c5 c6 lb g0 g1 g2 g3 g4 l0;go_wp2_with fail
      refine (HNV.out w6 OB.out).mono ?_;rintro e w7 ⟨rfl,ho7⟩;have O7:=hid (O6.out.aB ho7);have OC:=hid (OB.out.aB ho7);clear ho7;by_cases h0:er=0
      ·have HQ:=hid (HNY.out h0)
       have ex:(er != 0)=false:=by simp[h0]
       have ey:(er == 0)=true:=by simp[h0]
       clear h0;go_wp2;go_roundw
       case rel=>exact⟨k+1,by omega,by go_num,HQ.out,O7.out⟩
       case measure=>first|(simp[intOf];done)|(simp[intOf];omega)
      ·have HQ:=hid (HNN.out h0)
       have ex:(er != 0)=true:=by simp[h0]
       have ey:(er == 0)=false:=by simp[h0]
       clear h0;go_wp2;go_ret
       exact⟨by rw[HQ.out];rfl,OC.out⟩
     ·have HX0:fe (fun i=>wI ((ns.map lM.n).getD i nd0) i ns.length) ns.length 0=0:=by rw[HF.out,iR (by omega)]
      obtain rfl:k=ns.length:=by omega
      have H2:Hid (res=KR (ns.map lM.n) (ls.map dQ.l) ns.length ls.length ft un):=hid (by rw[H1.out];unfold KS;rw[if_pos HX0]);clear HX0 HF OO;have HLKS:=hid (rLinks (ns.length:Int) (HL.out.kept OA.out) (fun x hx=>(HLO.out x hx).kept OA.out) hl);have hlk:T9 (ls.map dQ.l) (ns.length:Int)=fe (tY (ls.map dQ.l) ns.length) ls.length 0:=by unfold T9;rw[List.length_map]
      rw[hlk] at HLKS;clear hlk;go_wp2_with fail
      refine HLKS.out.mono ?_;rintro e w2 ⟨rfl,ho2⟩;have B2:=hid (ho2.got BB.out (by simp));have O2:=hid (OA.out.aB ho2);clear ho2 g0 g1 g2 g3 g4 l0 BB OA HLKS;have g0:=aA B2.out 0;have g1:=aA B2.out 1;have g2:=aA B2.out 2;have g3:=aA B2.out 3;have g4:=aA B2.out 4;have l0:=aD B2.out;by_cases hle:fe (tY (ls.map dQ.l) ns.length) ls.length 0=0
      ·have H3:Hid (res=KQ (ns.map lM.n) (ls.map dQ.l) ns.length ft un):=hid (by rw[H2.out];unfold KR;rw[if_pos hle])
       rw[hle];clear hle;go_wp2_with fail
       refine (HJN.out w2 O2.out).mono ?_;rintro e w3 ⟨rfl,ho3⟩;have B3:=hid (ho3.got B2.out (by simp));have O3:=hid (O2.out.aB ho3);clear ho3 g0 g1 g2 g3 g4 l0 B2 O2;have g0:=aA B3.out 0;have g1:=aA B3.out 1;have g2:=aA B3.out 2;have g3:=aA B3.out 3;have g4:=aA B3.out 4;have l0:=aD B3.out;have hjd:JnE (ns.map lM.n) (ls.map dQ.l) ns.length=decide (fe (fun i=>zG (ls.map dQ.l) i ((ns.map lM.n).getD i nd0)) ns.length 0=0):=rfl;by_cases hj:fe (fun i=>zG (ls.map dQ.l) i ((ns.map lM.n).getD i nd0)) ns.length 0=0
       ·rw [hjd,dF hj]
        have H4:Hid (res=KP ns.length ft un):=hid (by rw[H3.out];unfold KQ;rw[if_pos hj]);clear hj hjd;have HFTC:=hid (rFault (HFT.out.kept O3.out) hf);go_wp2_with fail
        refine HFTC.out.mono ?_;rintro e w5 ⟨rfl,ho5⟩;have B5:=hid (ho5.got B3.out (by simp));have O5:=hid (O3.out.aB ho5);clear ho5 g0 g1 g2 g3 g4 l0 B3 O3 HFTC;have g0:=aA B5.out 0;have g1:=aA B5.out 1;have g2:=aA B5.out 2;have g3:=aA B5.out 3;have g4:=aA B5.out 4;have l0:=aD B5.out;by_cases hc:lS ft=0
        ·have H5:Hid (res=KO ns.length ft un):=hid (by rw[H4.out];unfold KP;rw[if_pos hc])
         rw[hc];clear hc;go_wp2;go_loopw [6] (fun vi wr=>AlI w5 (fun f:Ft=>decide (f.n<(ns.length:Int))) ft vi wr) (fun vi _=>ft.length-(intOf vi).toNat)
         case atStart=>exact⟨0,Nat.zero_le _,rfl,rfl,Only.refl _ _⟩
         case round =>
          clear g0 g1 g2 g3 g4 l0;obtain⟨k,hk,rfl,hfe,ho⟩:=hrel;have HF:=hid hfe;have OO:=hid ho;have OA:=hid (O5.out.aB ho);have BB:=hid (ho.got B5.out (by simp));clear hfe ho;have g0:=aA BB.out 0;have g1:=aA BB.out 1;have g2:=aA BB.out 2;have g3:=aA BB.out 3;have g4:=aA BB.out 4;have l0:=aD BB.out;by_cases hlt:k<ft.length
          ·obtain⟨bk,off,hp,c0,c1,c2,c3,c4,lb⟩:=HFT.out.ft OA.out hlt
           subst hp;have HTK:=hid (vQ iT hlt HF.out);have HBD:Hid (decide ((ft.getD k iT).n<(ns.length:Int))=false->res=3):=hid (fun h=>by rw[H5.out];unfold KO;rw[if_neg (IG (P:=fun f:Ft=>decide (f.n<(ns.length:Int))) iT hlt h)]);generalize ft.getD k iT=f at c0 c1 c2 c3 c4 HTK HBD;clear c1 c2 c3 c4;by_cases hc:f.n<(ns.length:Int)
           ·have cx:decide (f.n >= (ns.length:Int))=false:=bR (by omega)
            have cy:decide ((ns.length:Int)<=f.n)=false:=bR (by omega);have HQ:=hid (HTK.out.trans (dF hc));clear hc;go_wp2_with fail
            go_quiet (fail)
            go_wp2;go_roundw
            case rel=>exact⟨k+1,by omega,by go_num,HQ.out,OO.out.aB (dY _ _)⟩
            case measure=>first|(simp[intOf];done)|(simp[intOf];omega)
           ·have cx:decide (f.n >= (ns.length:Int))=true:=dF (by omega)
            have cy:decide ((ns.length:Int)<=f.n)=true:=dF (by omega);have HQ:=hid (HBD.out (bR hc));clear hc;go_wp2_with fail
            go_quiet (fail)
            go_wp2;go_ret
            exact⟨by rw[HQ.out];rfl,OA.out.aB (dY _ _)⟩
          ·obtain rfl:k=ft.length:=by omega
           have hal:=HF.out;rw[List.take_of_length_le (Nat.le_refl _)] at hal;have HU:Hid (res=if bI un 1 1125899906842624=true then 0 else 3):=hid (by rw[H5.out];unfold KO;rw[if_pos hal]);clear hal;by_cases hu:bI un 1 1125899906842624=true
           ·obtain⟨u0,u1⟩:=bH.1 hu
            have ux:decide (un<1)=false:=bR (by omega);have uy:decide (un > 1125899906842624)=false:=bR (by omega);have uz:decide (1125899906842624<un)=false:=bR (by omega);have HQ:Hid (res=0):=hid (by rw[HU.out,if_pos hu]);clear hu;go_wp2;go_ret
            exact⟨by rw[HQ.out];rfl,OA.out⟩
           ·have HQ:Hid (res=3):=hid (by rw[HU.out,if_neg hu])
            rcases dP hu with hq|⟨hq,hr⟩
            ·have ux:decide (un<1)=true:=dF (by omega)
             clear hu;go_wp2;go_ret
             exact⟨by rw[HQ.out];rfl,OA.out⟩
            ·have ux:decide (un<1)=false:=bR (by omega)
             have uy:decide (un > 1125899906842624)=true:=dF (by omega);have uz:decide (1125899906842624<un)=true:=dF (by omega);clear hu;go_wp2;go_ret
             exact⟨by rw[HQ.out];rfl,OA.out⟩
        ·have HQ:Hid (res=lS ft):=hid (by rw[H4.out];unfold KP;rw[if_neg hc])
         have cx:(lS ft != 0)=true:=by simp[hc]
         have cy:(lS ft == 0)=false:=by simp[hc]
         clear hc;go_wp2;go_ret
         exact⟨by rw[HQ.out];rfl,O5.out⟩
       ·rw[hjd,bR hj]
        have HQ:Hid (res=11):=hid (by rw[H3.out];unfold KQ;rw[if_neg hj]);clear hj hjd;go_wp2;go_ret
        exact⟨by rw[HQ.out];rfl,O3.out⟩
      ·have HQ:Hid (res=fe (tY (ls.map dQ.l) ns.length) ls.length 0):=hid (by rw[H2.out];unfold KR;rw[if_neg hle])
       generalize fe (tY (ls.map dQ.l) ns.length) ls.length 0=er at hle HQ |-;have cx:(er != 0)=true:=by simp[hle]
       have cy:(er == 0)=false:=by simp[hle]
       clear hle;go_wp2;go_ret
       exact⟨by rw[HQ.out];rfl,O2.out⟩
end
end Go.Proofs.YthbgcpfklmlnjaaGreat
