/- Ch7 Ch8 -/
import Derived.Test.YtppjhbjmfkiejaaGreatFCh4
namespace Go.Proofs.YtppjhbjmfkiejaaGreat
set_option linter.all false
set_option maxRecDepth 100000
set_option maxHeartbeats 8000000
open Go.RowKit Go.Sort
open IntKind (wrap)
section
theorem JO {s:eU}:∀ {l:List iD} {la:Int},A8 s la l=true->∀ x∈l,icF s x.nd=true
 | [],_,_,x,hx=>by cases hx
 |y::r,la,h,x,hx=>by
  unfold A8 vOk at h;simp only[Bool.and_eq_true] at h;rcases List.mem_cons.1 hx with rfl|hx
  ·exact h.1.1.1.1.1.1
  ·exact JO h.2 x hx
theorem WA {s:eU} {l:List iD} (h:lC s l=true):l.length<=400/\∀ x∈l,0<=x.nd/\x.nd<(s.nd.length:Int):=by
 unfold lC at h;rw[Bool.and_eq_true] at h;refine⟨of_decide_eq_true h.1,fun x hx=>?_⟩;have:=JO h.2 x hx;unfold icF at this;simp only[Bool.and_eq_true,decide_eq_true_eq] at this;omega
def fndF (f:Int->Option Bool) (x:iD):List Fnd:=if (!(f x.nd).getD false && !xJ ⟨x.lo,x.hi⟩ x.at_)=true then [⟨1,x.nd,0⟩] else []
def MksR (R:List (Int × Int)) (w:World) (s:dW) (c:Cf) (l:List iD) (e:Ending) (w':World):Prop:=
 (iT s.sc c≠0/\e=.returned (.tuple #[.slice none 0 0,.int .i64 (iT s.sc c)])) \/
 (iT s.sc c=0/\∃ st,rP R s.sc (newF s.sc c) st/\((lC s.sc l=false/\e=.returned (.tuple #[.slice none 0 0,.int .i64 2])) \/
  (lC s.sc l=true/\∃ v A C f,e=.returned (.tuple #[v,.int .i64 0])/\Own NZ 99 3 w.heap.size w' v (A ++ C)/\(l=st.mks->C=[])/\(l≠st.mks->∃ g,C=[g]) /\
   (UnQ (s.nd.map (fun x=>x.n.sv)) s.ft->f=fun _=>none)/\(∀ x,l=[x]->A=fndF f x))))
theorem QK {w:World} (s:dW) (hs:s.Ok w) (c:Cf) {R:List (Int × Int)} (hR:rQ w R) {l:List iD} {p:Option Addr} {cp:Nat} (ha:aU kC 9 w p l.length cp l) :
  Calls Tryz.prog 17 #[fT s,JB c,.slice p l.length cp] w fun e w'=>MksR R w s c l e w'/\Oy [] w w':=by
 have HRUN:=aA (fun w' (o:Oy [] w w')=>pNRun s c (hs.kept o) (hR.kept o));have HVL:=aA (fun w' (o:Oy [] w w')=>QL s (hs.kept o).nd (ha.kept o));have HUM:=aA (fun w' (o:Oy [] w w') (h:sV s.sc=0)=>YB s (hs.kept o) h);have HA:=aA ha;have HN:=aA hs.nd;have hlen:s.sc.nd.length=s.nd.length:=by unfold dW.sc;simp
 clear hs hR ha;unfold MksR;obtain⟨e0,he0⟩:∃ e0,iT s.sc c=e0:=⟨_,rfl⟩;have HZ:=aA (show e0=0->sV s.sc=0 from fun h=>(kP (he0.trans h)).1);unfold ME at HRUN;rw[he0] at HRUN |-;clear he0;unfold fT JB at *;obtain⟨wo,rfl⟩:∃ wo:World,wo=w:=⟨_,rfl⟩;have m:=bJ wo [];have k:=m.zK;go_enter Tryz.func17,Tryz.ntmps17
 go_wp2_with ((with_reducible first|refine cU ?_|refine wU ?_);clear k m;intro w m k)
 refine (HRUN.out _ gO).mono ?_;rintro r w3 ⟨hr,o3⟩;replace m:Mm wo [] w3 _:=⟨m.out.call o3⟩;have O03:=aA m.zO;rcases hr with ⟨hz,rfl⟩|⟨hz,st,v,hrun,rfl,own⟩
 ·have hne:(e0 != 0)=true:=by simpa using hz
  clear k o3 HRUN HVL HUM HZ;have k:=m.zK;go_wp2_with (first|((with_reducible first|refine cU ?_|refine wU ?_);clear k m;intro w m k)|((with_reducible refine lE (fun w o g k K hK=>⟨rfl,?_⟩));simp[results,Tryz.results17,go_sem];refine hK _ ?_;exact⟨.inl ⟨hz,rfl⟩,o⟩))
 subst hz;obtain⟨q,cap,rfl,hv⟩:=own.dI bO;have HV:=aA hv;have HCK:=aA (HZ.out rfl);have HST:=aA hrun;have HB3:=aA (aF (gB (w:=w3) (b:=wo.heap.size)));have hq0:=gB (w:=w3) (b:=wo.heap.size);clear k m hrun own hv o3 HRUN HZ;have m:=iX hq0;have k:=m.zK;clear hq0;obtain⟨vb,hvb⟩:∃ vb,lC s.sc l=vb:=⟨_,rfl⟩;rw[hvb] at HVL;have HVB:=aA hvb
 cases vb with
 | false =>
  clear HUM;go_wp2_with (first|((with_reducible first|refine cM (HVL.out _ (O03.out.aB gO)) ?_|refine cU ?_|refine wU ?_);clear k m;intro w m k)|((with_reducible refine lE (fun w o g k K hK=>⟨rfl,?_⟩));simp[results,Tryz.results17,go_sem];refine hK _ ?_;exact⟨.inr ⟨rfl,st,HST.out,.inl ⟨HVB.out,rfl⟩⟩,O03.out.aB o⟩))
 | true =>
  obtain⟨hl4,hnd⟩:=WA hvb;rw[hlen] at hnd;have HND:=aA hnd;clear hvb hnd hlen;go_wp2_with ((with_reducible first|refine cM (HVL.out _ (O03.out.aB gO)) ?_|refine cU ?_|refine wU ?_);clear k m;intro w m k)
  refine (HUM.out _ (O03.out.aB gO) HCK.out).mono ?_;rintro r w4 ⟨b,f,rfl,hb,hmp,hqf,o4⟩;have HMP:=aA hmp;have HQF:=aA hqf;replace m:Mm w3 [] w4 _:=⟨m.out.call o4⟩;have O34:=aA m.zO;have OB:=aA (O03.out.aB m.zO);have hsc:=gB (w:=w4) (b:=wo.heap.size);clear k hmp hqf o4 HUM m hb;have m:=iX hsc;have k:=m.zK;clear hsc;go_wp2_with ((with_reducible first|refine cU ?_|refine wU ?_);clear k m;intro w m k)
  refine MN (G:=fun W=>Oper.upon _ _ _ _ _ ((Sem.run _ _ W).andThen _)) ?_;clear k m;intro w m k;rw[@run_makeMap Tryz.prog];go_upto_region 9 with (fail)
  refine aG (G:=fun w0=>Code.wp _ _ _ _ w0) ?_;intro w5 hb5 ho5 hs5;have O45:=aA (m.zO.aB ho5);have OB5:=aA (OB.out.aB O45.out);have HM5:=aA (qY (kE:=(fun n:Int=>Value.int .i64 n)) (vE:=(fun x:iD=>Value.agg (kC x).toArray)) hb5);have hsc5:=ho5.got (gB (w:=w) (b:=wo.heap.size)) (by simp);have HM4:=aA m.zO.size;have HMB:=aA (Nat.le_trans OB.out.size m.zO.size);have HMC:=aA (Nat.le_trans O34.out.size m.zO.size);have hlt5:=aF hb5;clear k m ho5 hs5 hb5;generalize w.heap.size=mb at HM5 HMB HMC HM4 hlt5 |-;have HLT5:=aA hlt5;have HSC:=aA hsc5;clear hlt5;have m:=iX hsc5;have k:=m.zK;clear hsc5;go_wp2_with ((with_reducible first|refine cU ?_|refine wU ?_);clear k m;intro w m k)
  clear k m;obtain⟨wl,rfl⟩:∃ wl:World,wl=w5:=⟨_,rfl⟩;go_loopw [10,36] (fun va vi wr=>∃ (i:Nat) (A:List Fnd) (F:Int->Option iD),i<=l.length/\vi=.int .i64 i/\Own NZ 99 3 wl.heap.size wr va A/\A.length<=3*i/\mI (fun n:Int=>Value.int .i64 n) (fun x:iD=>Value.agg (kC x).toArray) wr mb F/\(i=0->A=[]/\F=fun _=>none)/\(∀ x,l=[x]->i=1->A=fndF f x)/\Oy [mb] wl wr) (fun va vi _=>l.length-(intOf vi).toNat)
  case atStart=>exact⟨0,[],_,Nat.zero_le _,rfl,bR _ _,Nat.zero_le _,HM5.out,fun _=>⟨rfl,rfl⟩,fun _ _ h=>absurd h (by decide),aR _ _⟩
  case round =>
   obtain⟨i,A,F,hi,rfl,hown,hal,hmf,h0,h1,ho⟩:=hrel;obtain⟨pa,ca,rfl,-⟩:=hown.dI pG;have O1:=aA ho;have OWN:=aA hown;have HF:=aA hmf;have HI0:=aA h0;have HI1:=aA h1;have OW:=aA (OB5.out.trans ho (fun q hq=>.inr (by rw[List.mem_singleton.1 hq];exact HMB.out)));have O3:=aA ((O34.out.aB O45.out).trans ho (fun q hq=>.inr (by rw[List.mem_singleton.1 hq];exact HMC.out)));have hb1:=ho.got HSC.out (by have h1:=HB3.out;have h2:=HMC.out;simp;omega);have hlw:wl.heap.size<=wr.heap.size:=ho.size;have HSB:=aA (fun q (hq:q∈(Value.slice pa A.length ca).ownBlock.toList)=>hown.DU q hq);clear ho hown hmf h0 h1;by_cases hlt:i<l.length
   ·have hlt3:(i:Int)<(l.length:Int):=by omega
    have ei:wrap .i64 ((i:Int)+1)=((i+1:Nat):Int):=by rw[IntKind.wrap_i64];omega
    obtain⟨bk,off,hpp,-⟩:=HA.out.VQ (aR [] wo) hlt;obtain⟨x,hx⟩:∃ x,l[i]=x:=⟨_,rfl⟩;obtain⟨nd0,nd1⟩:=HND.out x (by rw[<-hx];exact List.getElem_mem hlt);obtain⟨j,hj⟩:∃ j:Nat,x.nd=(j:Int):=⟨x.nd.toNat,by omega⟩;have hjl:j<s.nd.length:=by omega
    obtain⟨bn,on,hpn,-⟩:=HN.out.nd (k:=j) (aR [] wo) hjl;obtain⟨tol,htol⟩:∃ t,(s.nd.getD j bD).n.tol=t:=⟨_,rfl⟩
    have HX:=aA (show ∀ w',Oy [] wr w'->(bk<w'.heap.size/\w'.cell? ⟨bk,off+i*9,none⟩=some (.int .i64 x.at_)/\w'.cell? ⟨bk,off+i*9+1,none⟩=some (.int .i64 x.nd)/\w'.cell? ⟨bk,off+i*9+2,none⟩=some (.int .i64 x.raw)/\w'.cell? ⟨bk,off+i*9+3,none⟩=some (.int .i64 x.clk)/\w'.cell? ⟨bk,off+i*9+4,none⟩=some (.int .i64 x.stp)/\w'.cell? ⟨bk,off+i*9+5,none⟩=some (.int .i64 x.lo)/\w'.cell? ⟨bk,off+i*9+6,none⟩=some (.int .i64 x.hi)/\w'.cell? ⟨bk,off+i*9+7,none⟩=some (.int .i64 x.kd)/\w'.cell? ⟨bk,off+i*9+8,none⟩=some (.int .i64 x.vl))/\bn<w'.heap.size/\w'.cell? ⟨bn,on+j*7+2,none⟩=some (.int .i64 tol) from fun w' o=>by
     obtain⟨b',o',e,z⟩:=HA.out.VQ (OW.out.aB o) hlt;rw[hpp] at e
     cases e
     rw[hx] at z;obtain⟨b2,o2,e2,z2⟩:=HN.out.nd (k:=j) (OW.out.aB o) hjl;rw[hpn] at e2
     cases e2
     rw[htol] at z2;exact⟨z,z2.1,z2.2.2.2.1⟩)
    have hbmb:b<mb:=Nat.lt_of_lt_of_le HMP.out.lt HM4.out
    have HLK:=aA (show ∀ w',Oy [] wr w'->(Instr.lookup 102 (.map (some b)) (.int .i64 (j:Int)) false).run Tryz.prog w'=.ok (.bool ((f j).getD false)) w' from fun w' o=>by
     have h:=kM (kE:=(fun n:Int=>Value.int .i64 n)) (vE:=Value.bool) (eF Tryz.underlying3) Tryz.underlying102 (Tryz.zeroValue4 w') (HMP.out.kept (((O45.out.weak (S':=[mb]) (by simp)).trans O1.out (fun q hq=>.inl hq)).trans (o.weak (S':=[mb]) (by simp)) (fun q hq=>.inl hq)) (by simp;omega)) (j:Int) false;rw[h]
     cases f j<;>rfl)
    obtain⟨y,hy⟩:∃ y,(F j).getD ⟨0,0,0,0,0,0,0,0,0⟩=y:=⟨_,rfl⟩;obtain⟨fl,hfl⟩:∃ fl,(F j).isSome=fl:=⟨_,rfl⟩
    have HL2:=aA (show ∀ w',Oy [] wr w'->(Instr.lookup 104 (.map (some mb)) (.int .i64 (j:Int)) true).run Tryz.prog w'=.ok (.tuple #[.agg (kC y).toArray,.bool fl]) w' from fun w' o=>by
     have h:=kM (kE:=(fun n:Int=>Value.int .i64 n)) (vE:=(fun x:iD=>Value.agg (kC x).toArray)) (eF Tryz.underlying3) Tryz.underlying104 (Tryz.zeroValue41 w') (HF.out.kept o (by simp)) (j:Int) true;rw[h,<-hy,<-hfl]
     cases F j<;>rfl)
    have HFL:=aA (show i=0->fl=false from fun h=>by rw[<-hfl,(HI0.out h).2];rfl);have HXL:=aA (show ∀ x',l=[x']->i=0->x'=x from fun x' h h0=>by subst h0;subst h;exact hx);rw[hpp,hpn];rw[hpn] at hb1;clear hx hy hfl hpp hpn htol nd0 nd1;obtain⟨x0,x1,x2,x3,x4,x5,x6,x7,x8⟩:=x;obtain⟨y0,y1,y2,y3,y4,y5,y6,y7,y8⟩:=y;dsimp only at hj HX HXL;subst hj;unfold kC at HL2;dsimp only at HL2;obtain⟨fb,hfb⟩:∃ fb,(f j).getD false=fb:=⟨_,rfl⟩;rw[hfb] at HLK;have HFB:=aA hfb;have hj3:(j:Int)<(s.nd.length:Int):=by omega
    clear hfb;have m:=iX hb1;have k:=m.zK;have c:=HX.out wr (aR _ _);clear hb1;go_wp2_with ((with_reducible first|refine cU ?_|refine wU ?_);clear k m c;intro w m k;have c:=HX.out w m.zO)
    have hlk:=fun (a:DY [] w)=>HLK.out a.val ((m.zO).aB a.ok);refine rA (id:=12) [0,1,2,3,4,5,6,7,8,9,10,11,12,13] [] 14 [15] (by kernel_rfl) (by kernel_rfl) ?_;simp only[bV]
    (repeat (refine aQ (fun K hK=>?_);go_simp;refine hK _ ?_;clear hK K))
    refine aS ?_;refine aK ?_;clear k m c hlk;intro w o m k;refine aD rfl ?_;go_wp2;simp only[bA];obtain⟨nb,hnb⟩:∃ n,n=w.heap.size:=⟨_,rfl⟩;refine⟨o.alloc _,tW ?_⟩;clear o k m;intro w m k;rw[<-hnb] at m |-;clear hnb k;have k:True:=trivial;unfold aV;refine aD rfl ?_;refine iL (ty:=106) (b:=nb) (cs:=[.int .i64 x0,.int .i64 (j:Int),.int .i64 x2,.int .i64 x3,.int .i64 x4,.int .i64 x5,.int .i64 x6,.int .i64 x7,.int .i64 x8,.int .i64 0,.int .i64 0,.int .i64 0,.int .i64 0,.int .i64 0,.int .i64 0,.int .i64 0,.int .i64 0,.int .i64 0,.bool false,.bool (!fb),.int .i64 tol]) ?_ ?_ ?_ ?_ ?_ ?_
    ·simp[Act.eval]
    ·simp[Act.eval]
    ·kernel_rfl
    ·rfl
    ·rfl
    clear k m;intro w m;go_wp2;simp only[bA];refine tW ?_;clear m;intro w m k;unfold aV;have c:=HX.out w m.zO;have hl2:=HL2.out w m.zO;go_upto_region 14 with (fail)
    refine wU ?_;clear k m c hl2;intro w m k;have c:=HX.out w m.zO;go_wp2_with ((with_reducible first|refine cU ?_|refine wU ?_);clear k m c;intro w m k;have c:=HX.out w m.zO)
    refine (pChecks w).mono ?_;rintro r w6 ⟨⟨cb,rfl,hcb,hck⟩,o6⟩;have hrv:=o6.got (gB (w:=w) (b:=nb)) (by simp);have hcp:=o6.got (gB (w:=w) (b:=wr.heap.size)) (by simp);have hn1:nb≠wr.heap.size:=gN w;have hn2:nb<w.heap.size:=aF gB;have hn3:wr.heap.size<w.heap.size:=aF gB;have hn4:wr.heap.size<=nb:=gNew (m:=m);have O6:=aA (m.zO.aB o6);have HNE:=aA (show nb≠wr.heap.size/\nb<cb/\wr.heap.size<cb/\wr.heap.size<=nb from ⟨hn1,by omega,by omega,hn4⟩)
    have HM6:=aA (show ∀ w',(∀ q,q=cb\/q=nb\/q=wr.heap.size->w'.heap[q]? = w6.heap[q]?)->Mm w' [] w' [⟨nb,_,_,false⟩,⟨wr.heap.size,_,_,false⟩,⟨cb,_,_,false⟩] from fun w' h =>
     ⟨(((Mem.start w' []).ext false ((h cb (.inl rfl)).trans hck) (by simp) (by simp)).ext false ((h _ (.inr (.inr rfl))).trans hcp) (by have:=HNE.out;simp;omega) (by simp)).ext false ((h nb (.inr (.inl rfl))).trans hrv) (by have:=HNE.out;simp;omega) (by simp)⟩)
    clear k m c hck hcp hrv hn1 hn2 hn3 hn4;obtain⟨lb,hlb⟩:∃ lb,((!fb) && !xJ ⟨x5,x6⟩ x0)=lb:=⟨_,rfl⟩;have HLB:=aA hlb;have HLI:=aA (fun w'=>pLiesW ⟨x0,(j:Int),x2,x3,x4,x5,x6,x7,x8⟩ ⟨y0,y1,y2,y3,y4,y5,y6,y7,y8⟩ fl (!fb) tol w');have HTB:=aA (fun w'=>pTurnsW ⟨x0,(j:Int),x2,x3,x4,x5,x6,x7,x8⟩ ⟨y0,y1,y2,y3,y4,y5,y6,y7,y8⟩ fl (!fb) tol w');have HGR:=aA (fun w'=>pGrowsW ⟨x0,(j:Int),x2,x3,x4,x5,x6,x7,x8⟩ ⟨y0,y1,y2,y3,y4,y5,y6,y7,y8⟩ fl (!fb) tol w');unfold rvG at HLI HTB HGR;dsimp only at HLI HTB HGR;rw[hlb] at HLI;clear hlb;obtain⟨SB,hSB⟩:∃ S,S=(Value.slice pa A.length ca).ownBlock.toList:=⟨_,rfl⟩;rw[<-hSB] at HSB;have HSE:=aA hSB;have HW6L:=aA (Nat.le_trans hlw O6.out.size)
    have HSN:=aA (show ∀ q,q=cb\/q=nb\/q=wr.heap.size->q ∉ SB from fun q hq hm=>by
     have h1:=HSB.out q hm;have h2:=HNE.out;rcases hq with rfl|rfl|rfl<;>omega)
    have HMS:=aA (show mb ∉ SB from fun hm=>by have h1:=HSB.out mb hm;have h2:=HLT5.out;omega);have HSW:=aA (show ∀ q∈SB,wl.heap.size<=q from fun q hq=>(HSB.out q hq).1);have HC6:=aA (show cb<w6.heap.size/\nb<w6.heap.size/\wr.heap.size<w6.heap.size from ⟨aF (HM6.out w6 (fun _ _=>rfl)).out.got.2.2.1,aF (HM6.out w6 (fun _ _=>rfl)).out.got.1,aF (HM6.out w6 (fun _ _=>rfl)).out.got.2.1⟩);clear hSB hcb HLK HL2 HX o6;have m:=HM6.out w6 (fun _ _=>rfl);have k:=m.zK;go_wp2_with (first|((with_reducible refine nH (ty:=106) (b:=nb) ?_ Tryz.underlying106 ?_ ?_ ?_);(. simp[Act.eval]);(. rfl);(. kernel_rfl))|((with_reducible first|refine cU ?_|refine wU ?_);clear k m;intro w m k))
    obtain⟨wz,rfl⟩:∃ wz:World,wz=wr:=⟨_,rfl⟩;clear k m;go_loopw [10,66] (fun va vk wr2=>∃ (kk:Nat) (A':List Fnd),kk<=3/\vk=.int .i64 kk/\Own NZ 99 3 wl.heap.size wr2 va A'/\A'.length<=A.length+kk/\(∀ q∈va.ownBlock.toList,q∈SB\/w6.heap.size<=q)/\(kk=0->A'=A)/\(1<=kk->fl=false->A'=A ++ (if lb=true then [⟨1,(j:Int),(i:Int)⟩] else []))/\Oy SB w6 wr2) (fun va vk _=>3-(intOf vk).toNat)
    case atStart=>exact⟨0,A,by decide,rfl,OWN.out.kept O6.out,Nat.le_refl _,fun q hq=>.inl (by rw[HSE.out];exact hq),fun _=>rfl,fun h=>absurd h (by decide),aR _ _⟩
    case round =>
     obtain⟨kk,A',hk,rfl,hown,hal2,hso,hk0,hk1,ho⟩:=hrel;obtain⟨pa2,ca2,rfl,-⟩:=hown.dI pG;have OWN2:=aA hown;have HSO:=aA hso;have HK0:=aA hk0;have HK1:=aA hk1;have O2:=aA ho;have HM3:=aA (HM6.out wr (fun q hq=>ho.block q (by rcases hq with rfl|rfl|rfl;exact HC6.out.1;exact HC6.out.2.1;exact HC6.out.2.2) (HSN.out q hq)));clear hown hso hk0 hk1 ho;by_cases hlt:kk<3
     ·have hc:kk=0\/kk=1\/kk=2:=by omega
      clear hlt;rcases hc with rfl|rfl|rfl
      focus
       rw[show ((0:Nat):Int)=0 from rfl];have HCT:=HLI;obtain⟨kn,hkn⟩:∃ n:Nat,n=1:=⟨_,rfl⟩;have HREL:=aA (show ∀ bb,(bb=lb)->fl=false->(if bb=true then A' ++ [⟨(kn:Int),(j:Int),(i:Int)⟩] else A')=A ++ (if lb=true then [⟨1,(j:Int),(i:Int)⟩] else []) from fun bb h _=>by subst h;subst hkn;rw[HK0.out (by decide)];cases bb<;>simp);have HKN:=aA hkn;clear hkn
      rotate_left
      focus
       rw[show ((1:Nat):Int)=1 from rfl];have HCT:=HTB;obtain⟨kn,hkn⟩:∃ n:Nat,n=2:=⟨_,rfl⟩;have HREL:=aA (show ∀ bb,(fl=false->bb=false)->fl=false->(if bb=true then A' ++ [⟨(kn:Int),(j:Int),(i:Int)⟩] else A')=A ++ (if lb=true then [⟨1,(j:Int),(i:Int)⟩] else []) from fun bb h hf=>by rw[h hf];simpa using HK1.out (by decide) hf);have HKN:=aA hkn;clear hkn
      rotate_left
      focus
       rw[show ((2:Nat):Int)=2 from rfl];have HCT:=HGR;obtain⟨kn,hkn⟩:∃ n:Nat,n=3:=⟨_,rfl⟩;have HREL:=aA (show ∀ bb,(fl=false->bb=false)->fl=false->(if bb=true then A' ++ [⟨(kn:Int),(j:Int),(i:Int)⟩] else A')=A ++ (if lb=true then [⟨1,(j:Int),(i:Int)⟩] else []) from fun bb h hf=>by rw[h hf];simpa using HK1.out (by decide) hf);have HKN:=aA hkn;clear hkn
      rotate_left
      all_goals
       have m:=HM3.out;have k:=m.zK;go_wp2_with (first|((with_reducible refine nH (ty:=106) (b:=nb) ?_ Tryz.underlying106 ?_ ?_ ?_);(. simp[Act.eval]);(. rfl);(. kernel_rfl))|((with_reducible first|refine cU ?_|refine wU ?_);clear k m;intro w m k))
       refine (HCT.out _).mono ?_;rintro r w7 ⟨⟨bb,rfl,hb⟩,o7⟩;have HB:=aA (HREL.out bb hb);replace m:Mm wr [] w7 _:=⟨m.out.call o7⟩;clear k o7 hb HREL HCT;have k:=m.zK
       cases bb with
       | false =>
        go_wp2_with (first|((with_reducible refine nH (ty:=106) (b:=nb) ?_ Tryz.underlying106 ?_ ?_ ?_);(. simp[Act.eval]);(. rfl);(. kernel_rfl))|((with_reducible first|refine cU ?_|refine wU ?_);clear k m;intro w m k))
        go_roundw
        case rel=>exact⟨kn,A',by rw[HKN.out];decide,by rw[HKN.out];rfl,OWN2.out.kept m.zO,by rw[HKN.out];omega,HSO.out,fun h=>(by rw[HKN.out] at h;cases h),fun _ hf=>by simpa using HB.out hf,O2.out.trans m.zO (by simp)⟩
        case measure=>decide
       | true =>
        go_wp2_with (first|((with_reducible first|refine cU ?_|refine wU ?_);clear k m;intro w m k)|(at_builtin;refine aW ?_))
        refine aG (G:=fun w0=>Stop (wpList _ _ _ _ _ w0)) ?_;intro w8 hb8 ho8 hs8;have B8:=aA hb8;have O8:=aA (O2.out.trans (m.zO.aB ho8) (by simp));have R8:=aA (OWN2.out.kept (m.zO.aB ho8));have HZ8:=aA (Nat.le_trans HW6L.out O8.out.size);clear k m hb8 ho8 hs8;refine bH ?_;refine bQ (B:=wl.heap.size) rfl _ _ 62 rfl 99 (.agg #[.int .i64 0,.int .i64 0,.int .i64 0]) 3 24 Tryz.underlying62 (by kernel_rfl) rfl (by decide) NZ pG RL A' _ rfl R8.out _ ⟨(kn:Int),(j:Int),(i:Int)⟩ rfl (fun j u hj=>by rw[aC B8.out,<-hj];simp[NZ,HKN.out]) (by simp[maxLen];omega) (by omega) HZ8.out ?_;intro v9 w9 hown9 hk9 ho9;have W9:=aA hown9;have K9:=aA (show ∀ q∈v9.ownBlock.toList,q∈SB\/w6.heap.size<=q from fun q hq=>(hk9 q hq).elim (HSO.out q) fun h=>.inr (Nat.le_trans O8.out.size h));have O9:=aA (O8.out.trans ho9 (fun q hq=>HSO.out q hq));clear hown9 hk9 ho9;go_wp2_with fail
        go_roundw
        case rel=>exact⟨kn,_,by rw[HKN.out];decide,by rw[HKN.out];rfl,W9.out,by rw[List.length_append,List.length_singleton,HKN.out];omega,K9.out,fun h=>(by rw[HKN.out] at h;cases h),fun _ hf=>by simpa using HB.out hf,O9.out⟩
        case measure=>decide
     ·obtain rfl:kk=3:=by omega
      rw[show ((3:Nat):Int)=3 from rfl];have m:=HM3.out;have k:=m.zK;go_wp2_with (first|((with_reducible first|refine cU ?_|refine wU ?_);clear k m;intro w m k)|(at_mapUpdate;refine aW ?_))
      have hmf:=((HF.out.kept O6.out (by simp)).kept O2.out HMS.out).kept m.zO (by simp);have O7:=aA (((O1.out.trans (O6.out.weak (S':=[mb]) (by simp)) (fun q hq=>.inl hq)).trans O2.out (fun q hq=>.inr (HSW.out q hq))).trans m.zO (by simp));have W7:=aA (OWN2.out.kept m.zO);refine bH ?_;refine iI (kE:=(fun n:Int=>Value.int .i64 n)) (vE:=(fun x:iD=>Value.agg (kC x).toArray)) rfl _ _ _ 104 rfl 3 41 (eF Tryz.underlying3) Tryz.underlying104 mb _ rfl hmf (j:Int) rfl ⟨x0,(j:Int),x2,x3,x4,x5,x6,x7,x8⟩ rfl ?_;intro w9 hm9 ho9 hs9;have HM9:=aA hm9;have O9:=aA (O7.out.trans ho9 (fun q hq=>.inl hq));have W9:=aA (W7.out.lT ho9 (fun q hq=>by rw[List.mem_singleton.1 hq];exact HLT5.out))
      have HRE:=aA (show ∀ x,l=[x]->i+1=1->A'=fndF f x from fun x hx h=>by
       have h0:i=0:=by omega
       have e:=HXL.out x hx h0;rw[HK1.out (by decide) (HFL.out h0),(HI0.out h0).1,List.nil_append,e,<-HLB.out];unfold fndF;dsimp only;rw[HFB.out,h0];rfl)
      clear hm9 ho9 hs9 hmf m k;go_wp2_with fail
      go_roundw
      case rel=>exact⟨i+1,A',_,by omega,by go_num,W9.out,by omega,HM9.out,fun h=>absurd h (by omega),HRE.out,O9.out⟩
      case measure=>first|(simp[intOf];done)|(simp[intOf];omega)
   ·obtain rfl:i=l.length:=by omega
    have hlt2:decide ((l.length:Int)<(l.length:Int))=false:=by simp
    have HCM:=aA (fun w' (o:Oy [] wr w')=>T9 (HA.out.kept (OW.out.aB o)) (HV.out.kept (O3.out.aB o)) (by omega));have m:=bJ wr [];have k:=m.zK;clear hb1;go_wp2_with (first|((with_reducible refine nH (ty:=106) (b:=nb) ?_ Tryz.underlying106 ?_ ?_ ?_);(. simp[Act.eval]);(. rfl);(. kernel_rfl))|((with_reducible first|refine cU ?_|refine wU ?_);clear k m;intro w m k))
    refine (HCM.out _ m.zO).mono ?_;rintro r w10 ⟨v2,L2,rfl,own2,hEq,hNe,o10⟩;obtain⟨p2,c2,rfl,hv2⟩:=own2.dI pG
    have hL2:L2.length<=1:=by
     by_cases h:l=st.mks
     ·rw[hEq h];decide
     ·obtain⟨g,hg⟩:=hNe h;rw[hg];exact Nat.le_refl _
    have HEN:=aA (And.intro hEq hNe);have R10:=aA (OWN.out.kept (m.zO.aB o10));have O10:=aA (m.zO.aB o10);have HV2:=aA hv2;clear k m own2 hEq hNe o10 hv2 HCM;have m:=bJ w10 [];have k:=m.zK;go_wp2_with (first|((with_reducible first|refine cU ?_|refine wU ?_);clear k m;intro w m k)|(at_builtin;refine aW ?_))
    refine bH ?_;refine kY (B:=wl.heap.size) rfl _ _ 62 rfl 99 (.agg #[.int .i64 0,.int .i64 0,.int .i64 0]) 3 24 Tryz.underlying62 (by kernel_rfl) rfl (by decide) NZ pG RL A (.slice pa A.length ca) rfl R10.out p2 L2.length c2 L2 rfl HV2.out (by simp[maxLen];omega) (by omega) (Nat.le_trans hlw O10.out.size) ?_;intro v11 w11 hown11 hk11 ho11;have W11:=aA hown11;have O11:=aA ((OW.out.aB O10.out).trans ho11 (fun q hq=>.inr (Nat.le_trans OB5.out.size (R10.out.DU q hq).1)));have HI2:=aA (show ∀ x,l=[x]->A=fndF f x from fun x hx=>HI1.out x hx (by rw[hx];rfl));have HB5:=aA OB5.out.size;clear m k hown11 hk11 ho11 HI1;have m:=bJ w11 [];have k:=m.zK;go_wp2_with (first|((with_reducible first|refine cU ?_|refine wU ?_);clear k m;intro w m k)|((with_reducible refine lE (fun w o g k K hK=>⟨rfl,?_⟩));simp[results,Tryz.results17,go_sem];refine hK _ ?_;exact⟨.inr ⟨rfl,st,HST.out,.inr ⟨HVB.out,_,A,L2,f,rfl,(W11.out.kept o).lower HB5.out,HEN.out.1,HEN.out.2,HQF.out,HI2.out⟩⟩,O11.out.aB o⟩))
end
theorem YR {w:World} (s:dW) (hs:s.Ok w) (hsc:s.sc=eX) {R:List (Int × Int)} (hR:rQ w R) {p:Option Addr} {cp:Nat} (ha:aU kC 9 w p 1 cp [exM]) :
  Calls Tryz.prog 17 #[fT s,JB C9,.slice p 1 cp] w fun e w'=>(∃ v B g,e=.returned (.tuple #[v,.int .i64 0])/\Own NZ 99 3 B w' v [⟨1,1,0⟩,g])/\Oy [] w w':=by
 refine (QK s hs C9 hR (l:=[exM]) ha).mono ?_;rintro e w' ⟨hr,o⟩;refine⟨?_,o⟩;unfold MksR at hr;rw[hsc] at hr;rcases hr with ⟨hz,-⟩|⟨-,st,hst,⟨hv,-⟩|⟨-,v,A,C,f,rfl,own,-,hN,hq,hA⟩⟩
 ·exact absurd J9 hz
 ·rw[U1] at hv;cases hv
 ·obtain⟨mk,hmk,e0,-⟩:=aw_run hst
  obtain⟨g,hg⟩:=hN (fun h=>by
   rw[hmk] at h;have h2:exM=mk:=(List.cons.inj h).1;rw[<-h2] at e0;exact absurd e0 (by decide))
  obtain⟨x0,x1,hnd,hft,h0,h1⟩:=pair_ex hsc
  have hf:=hq ⟨hft,fun i li hi=>by
   rw[hnd] at hi |-;simp only[List.map_cons,List.map_nil,h0,h1] at hi |-;match i,hi with
   | 0,hi=>cases hi;decide
   | 1,hi=>cases hi;decide
   | i+2,hi=>simp at hi⟩
  have hA2:=hA exM rfl;subst hf;have hA3:A=[⟨1,1,0⟩]:=hA2;rw[hA3,hg] at own;exact⟨v,_,g,rfl,own⟩
end Go.Proofs.YtppjhbjmfkiejaaGreat
