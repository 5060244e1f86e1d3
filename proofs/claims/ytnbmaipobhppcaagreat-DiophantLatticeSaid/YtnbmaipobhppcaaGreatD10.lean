/- integer.Gcd. Package rational. Package rational: lowest terms and the operations. Package rational: Whole, Of, Sign, Div, Integral, Valid. Package rational: Div, Valid. -/
import Derived.Test.YtnbmaipobhppcaaGreatD02
import Derived.Test.YtnbmaipobhppcaaGreatD04
import Derived.Test.YtnbmaipobhppcaaGreatD07
import Derived.Test.YtnbmaipobhppcaaGreatD09
set_option linter.unusedVariables false
set_option linter.unusedSimpArgs false
set_option linter.unusedSectionVars false
set_option maxHeartbeats 16000000
set_option maxRecDepth 100000
namespace Go.Proofs.YtnbmaipobhppcaaGreat
open Go.RowKit
theorem zJK{w:World}{ao:Option Addr}{xs ys:List Nat}(h1:zG w ao xs)(h2:zG w ao ys)(hl:xs.length=ys.length):xs=ys:=by
 refine List.ext_getElem? fun k=>?_
 rcases Nat.lt_or_ge k xs.length with hk|hk
 ·obtain⟨b,off,cs,fz,e1,e2,e3⟩:=h1.2 (by rintro rfl;simp at hk)
  obtain⟨b',off',cs',fz',f1,f2,f3⟩:=h2.2 (by rintro rfl;rw[List.length_nil]at hl;omega);rw[e1]at f1;injection f1 with f1
  injection f1 with g1 g2
  subst g1 g2;rw[e2]at f2;injection f2 with f2
  injection f2 with g3 _ _
  subst g3;have a1:=e3 k xs[k] (xga hk);have a2:=f3 k ys[k] (xga oM);rw[a1]at a2;injection a2 with a2
  injection a2 with _ a2
  rw[xga hk,xga (by omega:k<ys.length)];exact congrArg some oM
 ·rw[List.getElem?_eq_none hk,List.getElem?_eq_none oM]
theorem zMd:∃f:Value->World->Nat,∀(w:World) (ao:Option Addr) (n cap:Nat) (xs:List Nat),xs.length=n->zG w ao xs->f (.slice ao n cap) w=nat xs:=by
 refine⟨fun v w=>Classical.epsilon fun k=>∃ao n cap,∃xs:List Nat,v= .slice ao n cap/\xs.length=n/\zG w ao xs/\nat xs=k,fun w ao n cap xs hn hx=>?_⟩;have hs:=Classical.epsilon_spec (p:=fun k=>∃ao' n' cap',∃xs:List Nat,Value.slice ao n cap= .slice ao' n' cap'/\xs.length=n'/\zG w ao' xs/\nat xs=k) ⟨nat xs,ao,n,cap,xs,rfl,hn,hx,rfl⟩;obtain⟨ao',n',cap',xs',h1,h2,h3,h4⟩:=hs;injection h1 with e1 e2 e3
 rw[<-e1]at h3;rw[zJK hx h3 (by rw[h2,<-e2,hn])];exact h4.symm
theorem zPb(w:World)(ao:Option Addr)(n cap:Nat)(xs:List Nat)(hn:xs.length=n)(hl:n<=cap)(hc:cap<=9223372036854775807)(hN:qM xs)(hx:zG w ao xs):
  Calls Tryz.prog 224 #[.slice ao n cap] w fun e w'=>∃v,e= .returned v/\v= .slice ao n n/\Below w.heap.size w w':=by
 have h:=jH ao n cap xs w hn hl hc hx;rw[<-hn,qP hN,hn]at h;exact h.mono fun e w' ⟨h1,h2⟩=>⟨_,h1,rfl,h2 ▸ Below.refl _ _⟩
theorem zKV{a b q r g:Nat}(h:a=q*b+r)(hg:Nat.gcd a b=g):Nat.gcd b r=g:=by
 rw[<-hg,h,Nat.gcd_comm (q*b+r),Nat.add_comm,Nat.gcd_add_mul_right_right]
theorem zLn{xs:List Nat}{n:Nat}(h:qR xs)(hn:xs.length=n)(h2:n<=2):nat xs<18446744073709551616:=by
 have:=jX h;rw[hn]at this;exact Nat.lt_of_lt_of_le this (Nat.le_trans (zAY h2) dE)
theorem zKU(v1 v2:Value)(z1 z2:Int)(w:World)(h1:zH w v1 z1)(h2:zH w v2 z2)(s1:Sm z1)(s2:Sm z2):
  Calls Tryz.prog 239 #[v1,v2] w (jL w ((Int.gcd z1 z2:Nat):Int)):=by
 obtain⟨neg1,ao1,n1,cap1,xs,rfl,hn1,hl1,hc1,hx1,hN1,hz1,hq1⟩:=h1.weak.len s1;obtain⟨neg2,ao2,n2,cap2,ys,rfl,hn2,hl2,hc2,hx2,hN2,hz2,hq2⟩:=h2.weak.len s2;have HG:qF (Nat.gcd (nat xs) (nat ys)=Int.gcd z1 z2):=⟨by unfold Int.gcd;rw[hz1,hz2,zZ,zZ]⟩;obtain⟨g,hg⟩:∃g,Int.gcd z1 z2=g:=⟨_,rfl⟩;rw[hg]at HG ⊢
 have HT1:qF (∀W,zG W ao1 xs->Calls Tryz.prog 224 #[.slice ao1 n1 cap1] W fun e w'=>∃v,e= .returned v/\v= .slice ao1 n1 n1/\Below W.heap.size W w'):=⟨fun W hW=>zPb W ao1 n1 cap1 xs hn1 hl1 hc1 hN1 hW⟩;have HT2:qF (∀W,zG W ao2 ys->Calls Tryz.prog 224 #[.slice ao2 n2 cap2] W fun e w'=>∃v,e= .returned v/\v= .slice ao2 n2 n2/\Below W.heap.size W w'):=⟨fun W hW=>zPb W ao2 n2 cap2 ys hn2 hl2 hc2 hN2 hW⟩;have HN1:=xgv hn1;have HN2:=xgv hn2;obtain⟨f,hf⟩:=zMd;have HF:=xgv hf;rw[qV]at hq1 hq2;clear h1 h2 s1 s2 hz1 hz2 hg hn1 hn2 hf;go_enter Tryz.func239,Tryz.ntmps239;go_upto_region 1 with(fail)
 refine zB ?_;intro W0 hW0;obtain⟨hB0,bx1,bx2,br,hs0⟩:=yG hW0;have hx1:=hx1.ext (lx hB0);have hx2:=hx2.ext (lx hB0);obtain⟨c1,c2,c3,c4⟩:=bx1.two;obtain⟨d1,d2,d3,d4⟩:=bx2.two;refine zE rfl (RV W0 _ [VP 0 11 w.heap.size 1,E 1 12 (.slice ao1 n1 cap1),E 2 13 (.slice ao1 n1 n1),VP 3 14 (w.heap.size+1) 1,E 4 15 (.slice ao2 n2 cap2),E 5 16 (.slice ao2 n2 n2),E 6 5 (.slice ao1 n1 n1),E 7 6 (.slice ao2 n2 n2)]) kR RV.start (RV.fin kR ?fin1) ?steps1
 case steps1=>
  refine⟨?_,?_,?_,?_,?_,?_,?_,?_,trivial⟩<;>(intro L T wS hL hd hcl hI K hK;try refine zA rfl ?_)
  ·exact xgs (hI.k 2 rfl kR)
  ·have zt0:=hI.e mm0 (hd 0)
   have cc0:=hI.cell c2;exact xgu
  ·have zt1:=hI.e mm1 (hd 1)
   go_simp;refine(HT1.out _ (hx1.ext (lx hI.bel))).mono ?_;rintro e wa ⟨v,rfl,hv,hba⟩;exact hK _ _ ((hI.world hba).y mm2 hv)
  ·exact xgs (hI.k 3 rfl kR)
  ·have zt3:=hI.e mm3 (hd 3)
   have cc0:=hI.cell d2;exact xgu
  ·have zt4:=hI.e mm4 (hd 4)
   go_simp;refine(HT2.out _ (hx2.ext (lx hI.bel))).mono ?_;rintro e wa ⟨v,rfl,hv,hba⟩;exact hK _ _ ((hI.world hba).y mm5 hv)
  ·exact xgs (hI.e mm2 (hd 2))
  ·exact xgs (hI.e mm5 (hd 5))
 intro w1 hbw1 T hT;simp only[Fin,E,EI,VP,VSl,VN,xgg,xgh,xgi,xgj]at hT;subst hT;have hB:=nx hB0 hbw1;have hx1:=hx1.ext (lx hbw1);have hx2:=hx2.ext (lx hbw1);have br:=br.below hbw1;clear c1 c2 c3 c4 d1 d2 d3 d4 HT1 HT2 bx1 bx2;go_wp2;go_loopw [5,6] (fun xv yv wr=>∃(ax ay:Option Addr) (n m c d:Nat) (xs ys:List Nat),xv= .slice ax n c/\yv= .slice ay m d/\qF (xs.length=n)/\qF (ys.length=m)/\n<=c/\c<=9223372036854775807/\m<=d/\d<=9223372036854775807/\zG wr ax xs/\zG wr ay ys/\qM xs/\qM ys∧
  n<=1099511627776/\m<=1099511627776/\qF (Nat.gcd (nat xs) (nat ys)=g)/\Below w.heap.size w wr/\Blk wr (w.heap.size+1+1) 35 #[.bool false,.slice none 0 0]) (fun _ yv wr=>f yv wr)
 case atStart=>exact⟨ao1,ao2,n1,n2,n1,n2,xs,ys,rfl,rfl,HN1,HN2,xgf _,by omega,xgf _,by omega,hx1,hx2,hN1,hN2,hq1,hq2,HG,hB,br⟩
 case round=>
  clear HN1 HN2 hx1 hx2 hN1 hN2 hq1 hq2 HG hB br;obtain⟨ax,ay,n,m,c,d,xs,ys,rfl,rfl,hn,hm,hnc,hc,hmd,hd,hx,hy,hNx,hNy,hn1,hm1,hg,hB,br⟩:=hrel;have hfy:=HF.out wr ay m d ys hm.out hy;have HFY:=xgv hfy;clear hfy;by_cases h0:m=0
  ·subst h0
   have hys:ys= []:=List.eq_nil_of_length_eq_zero hm.out;have hgx:qF (nat xs=g):=⟨by have:=hg.out;rw[hys]at this;simpa using this⟩;go_wp2_with fail
   refine(zBS ax n c xs wr hn.out (by rw[qV];omega) hx).mono ?_;rintro e w2 ⟨co,cl,cc,rfl,hcl,hcc,hc2,hcx,hb2⟩;have HCL:=xgv hcl;clear hcl;go_wp2_with fail
   refine(yF false co cl cc xs w2 HCL.out hcc hc2 hcx).mono ?_;rintro e w3 ⟨v,rfl,hv,hb3⟩;obtain⟨vn,va,vl,vc,rfl⟩:∃vn va vl vc,v= .agg #[.bool vn,.slice va vl vc]:=by
    obtain⟨vn,va,vl,vc,vx,rfl,-⟩:=id hv;exact⟨vn,va,vl,vc,rfl⟩
   have HV:=xgv hv;have br:=(br.below hb2).below hb3;obtain⟨r1,r2,r3,r4⟩:=br.two;clear hv;go_wp2;refine zW rfl rfl rfl (br.put2 _ _) ?_ (zT (zT (nx (nx hB hb2) hb3) oM 0 _) oM 1 _);rw[<-hgx.out,<-sgn_false];exact HV.out.ext (br.lext2 dE _ _)
  ·have hyp:qF (0<nat ys):=⟨by
    rcases Nat.eq_zero_or_pos (nat ys)with h|h
    ·exfalso
     have h1:=hm.out;cases hk:m with
     |zero=>omega
     |succ k=>
      have:=zC8 hNy (h1.trans hk);have h2:0<B32^k:=Nat.pow_pos dE;omega
    ·exact h⟩
   by_cases hs:n<=2/\m<=2
   ·go_wp2_with fail
    refine(zEF ax n c xs wr hn.out hs.1 hx).mono ?_;rintro e w' ⟨rfl,rfl⟩;go_wp2_with fail
    refine(zEF ay m d ys wr hm.out hs.2 hy).mono ?_;rintro e w' ⟨rfl,rfl⟩;have hux:nat xs<18446744073709551616:=zLn hx.1 hn.out hs.1;have huy:nat ys<18446744073709551616:=zLn hy.1 hm.out hs.2;obtain⟨a0,ha0⟩:∃a0,nat xs=a0:=⟨_,rfl⟩;obtain⟨b0,hb0⟩:∃b0,nat ys=b0:=⟨_,rfl⟩;rw[ha0]at hg hux ⊢
    rw[hb0]at hg huy ⊢
    clear ha0 hb0 HFY hyp hx hy hNx hNy hn hm;go_wp2;go_loopw [9,10] (fun uv vv wt=>∃a b:Nat,uv= .int .u64 a/\vv= .int .u64 b/\a<18446744073709551616/\b<18446744073709551616/\qF (Nat.gcd a b=g)/\Below w.heap.size w wt/\Blk wt (w.heap.size+1+1) 35 #[.bool false,.slice none 0 0]) (fun _ vv _=>(intOf vv).toNat)
    case atStart=>exact⟨a0,b0,rfl,rfl,hux,huy,hg,hB,br⟩
    case round=>
     clear hg hB br;obtain⟨a,b,rfl,rfl,ha,hb,hg,hB,br⟩:=hrel;by_cases h0:b=0
     ·subst h0
      have hga:qF (a=g):=⟨by have:=hg.out;rwa[Nat.gcd_zero_right]at this⟩;go_wp2_with fail
      refine(zB1 a _ ha).mono ?_;rintro e w2 ⟨co,cl,cc,cs,rfl,hcl,hcc,hc2,hcx,hcn,hb2⟩;have HCL:=xgv hcl;have HCN:=xgv hcn;clear hcl hcn;go_wp2_with fail
      refine(yF false co cl cc cs w2 HCL.out hcc hc2 hcx).mono ?_;rintro e w3 ⟨v,rfl,hv,hb3⟩;obtain⟨vn,va,vl,vc,rfl⟩:∃vn va vl vc,v= .agg #[.bool vn,.slice va vl vc]:=by
       obtain⟨vn,va,vl,vc,vx,rfl,-⟩:=id hv;exact⟨vn,va,vl,vc,rfl⟩
      have HV:=xgv hv;have br:=(br.below hb2).below hb3;obtain⟨r1,r2,r3,r4⟩:=br.two;clear hv;go_wp2;refine zW rfl rfl rfl (br.put2 _ _) ?_ (zT (zT (nx (nx hB hb2) hb3) oM 0 _) oM 1 _);rw[<-hga.out,<-HCN.out,<-sgn_false];exact HV.out.ext (br.lext2 dE _ _)
     ·have hbp:(0:Int)<(b:Int):=by omega
      have hrem:(a:Int).tmod (b:Int)=((a%b:Nat):Int):=(Int.ofNat_tmod a b).symm;have hlt:=Nat.mod_lt a (by omega:0<b);go_wp2;go_quiet (fail);go_roundw
      case rel=>
       refine⟨_,_,_,_,_,_,_,_,⟨b,a%b,?_,?_,hb,by omega,⟨zKV (Nat.div_add_mod' a b).symm hg.out⟩,nx hB (drN _ _),br.below (drN _ _)⟩,rfl⟩
       ·rfl
       ·rfl
      case measure=>simp[intOf];omega
   ·have hmx:2<max (n:Int) (m:Int):=by omega
    have hyp:=hyp.out;go_wp2_with fail
    refine(zDR ax ay n c m d xs ys wr hn.out hm.out hnc hmd hc hd (by rw[qV];omega) (by rw[qV];omega) hx hy hNx hNy hyp).mono ?_;rintro e w2 ⟨qo,ql,qc,qs,ro,rl,rc,rs,rfl,-,-,-,-,p5,p6,p7,p8,p9,p10,hb2⟩;have P9:=xgv p9;have P10:=xgv p10;have htrim:=jH ro rl rc rs w2 p5 p6 p7 p8;have htl:=zAm rs rl;have htz:qF (nat (rs.take (qQ rs rl))=nat rs/\(rs.take (qQ rs rl)).length=qQ rs rl/\qM (rs.take (qQ rs rl))):=⟨by
     have h1:=zAL rs;unfold zAr at h1;rw[p5]at h1;exact⟨h1,by rw[List.length_take];omega,jV rs rl oM⟩⟩
    obtain⟨t,HT⟩:∃t,qQ rs rl=t:=⟨_,rfl⟩;rw[HT]at htrim htl htz;have hy2:=hy.ext (lx hb2);have ht:=p8.take t;have htm:t<=m:=by
     have:=jU hy.1 htz.out.2.2 (by rw[htz.out.1];exact Nat.le_of_lt P10.out);rw[htz.out.2.1,hm.out]at this;exact this
    clear HT p5 p9 p10 hx;go_wp2_with fail
    refine htrim.mono ?_;rintro e w' ⟨rfl,rfl⟩;have br:=br.below hb2;have hft:=HF.out _ ro t t _ htz.out.2.1 ht;have HFT:=xgv hft;clear hft;go_wp2;go_roundw
    case rel=>exact⟨ay,ro,m,t,d,t,ys,rs.take t,rfl,rfl,hm,⟨htz.out.2.1⟩,hmd,hd,xgf _,by omega,hy2,ht,hNy,htz.out.2.2,hm1,by omega,⟨by rw[htz.out.1];exact zKV P9.out hg.out⟩,nx hB hb2,br⟩
    case measure=>
     show f _ _<f _ _;rw[HFT.out,HFY.out,htz.out.1];exact P10.out
abbrev tFr:TypeId:=315
theorem Tryz.sizeFr:(Tryz.prog.info? tFr).map (·.size)=some 4:=by kernel_rfl
theorem zBh{fn:Func}{a:Act}{w W:World}{q:Int × Int}{r:Nat}{x0 x1 x2 x3:Value}{p:Tmp}(h:fn.results=#[.cell p tFr])(hd:a.defers= [])
  (hp:a.tmps.getD p undef= .pointer (some ⟨r,0,none⟩)) (hb:Blk W r tFr #[x0,x1,x2,x3]) (hv:jS W (.agg #[x0,x1,x2,x3]) q) (hbel:Below w.heap.size w W):bodyPost Tryz.prog fn (zDN w q) .ret a W:=
 bodyPost_ret (results_cell_row h _ W r _ _ _ _ hp hb Tryz.underlying315 rfl (by rw[Tryz.sizeFr];rfl)) hd ⟨_,rfl,hv,hbel⟩
theorem zME(v1 v2:Value)(x1 y1 x2 y2:Int)(w:World)(h1:jS w v1 (x1,y1))(h2:jS w v2 (x2,y2))(sx1:Sm x1)(sy1:Sm y1)(sx2:Sm x2)(sy2:Sm y2):
  Calls Tryz.prog 277 #[v1,v2] w (zDN w (x1*x2,y1*y2)):=by
 have S1:=xgv sx1;have S2:=xgv sy1;have S3:=xgv sx2;have S4:=xgv sy2;clear sx1 sy1 sx2 sy2;obtain⟨s1,a1,l1,k1,s2,a2,l2,k2,rfl,i1,i2⟩:=h1;obtain⟨s3,a3,l3,k3,s4,a4,l4,k4,rfl,i3,i4⟩:=h2;dsimp only at i1 i2 i3 i4;have I1:=xgv i1;have I2:=xgv i2;have I3:=xgv i3;have I4:=xgv i4;clear i1 i2 i3 i4;go_enter Tryz.func277,Tryz.ntmps277;go_upto_region 1 with(fail)
 refine zB ?_;intro W0 hW0;obtain⟨hB0,T1,T2,T3,hs0⟩:=yG hW0;have I1:=xgv (I1.out.ext (lx hB0));have I2:=xgv (I2.out.ext (lx hB0));have I3:=xgv (I3.out.ext (lx hB0));have I4:=xgv (I4.out.ext (lx hB0));obtain⟨c1,c2,c3,c4,c5,c6,c7,c8⟩:=T1.four;obtain⟨d1,d2,d3,d4,d5,d6,d7,d8⟩:=T2.four;clear hW0;refine zC 10 rfl (RV W0 _ [VP 0 5 w.heap.size 0,E 1 6 (.agg #[.bool s1,.slice a1 l1 k1]),VP 2 7 (w.heap.size+1) 0,E 3 8 (.agg #[.bool s3,.slice a3 l3 k3]),EI 4 9 (x1*x2),VP 5 10 w.heap.size 2,E 6 11 (.agg #[.bool s2,.slice a2 l2 k2]),VP 7 12 (w.heap.size+1) 2,E 8 13 (.agg #[.bool s4,.slice a4 l4 k4]),EI 9 14 (y1*y2)]) kR RV.start (RV.fin kR ?fin1) ?steps1
 case steps1=>
  refine⟨?_,?_,?_,?_,?_,?_,?_,?_,?_,?_,trivial⟩<;>(intro L T wS hL hd hcl hI K hK;try refine zA rfl ?_)
  ·exact xgs (hI.k 2 rfl kR)
  ·have zt0:=hI.e mm0 (hd 0)
   have cc0:=hI.cell c1;have cc1:=hI.cell c2;exact xgu
  ·exact xgs (hI.k 3 rfl kR)
  ·have zt2:=hI.e mm2 (hd 2)
   have cc0:=hI.cell d1;have cc1:=hI.cell d2;exact xgu
  ·have zt1:=hI.e mm1 (hd 1)
   have zt3:=hI.e mm3 (hd 3);go_simp;refine(jM _ _ x1 x2 _ (I1.out.ext (lx hI.bel)).weak (I3.out.ext (lx hI.bel)).weak S1.out S3.out).mono ?_;exact xgo
  ·exact xgs (hI.k 2 rfl kR)
  ·have zt5:=hI.e mm5 (hd 5)
   have cc0:=hI.cell c3;have cc1:=hI.cell c4;exact xgu
  ·exact xgs (hI.k 3 rfl kR)
  ·have zt7:=hI.e mm7 (hd 7)
   have cc0:=hI.cell d3;have cc1:=hI.cell d4;exact xgu
  ·have zt6:=hI.e mm6 (hd 6)
   have zt8:=hI.e mm8 (hd 8);go_simp;refine(jM _ _ y1 y2 _ (I2.out.ext (lx hI.bel)).weak (I4.out.ext (lx hI.bel)).weak S2.out S4.out).mono ?_;exact xgo
 intro w1 hbw1 T hT;simp only[Fin,E,EI,VP,VSl,VN,xgg,xgh,xgi,xgj]at hT;obtain⟨va4,ha4,va9,ha9,rfl⟩:=hT;simp only[xgl,xgk];have T3:=T3.below hbw1;have hB:=nx hB0 hbw1;obtain⟨m1,b1,n1,o1,rfl⟩:=(show zH _ _ _ from ha4).parts;obtain⟨m2,b2,n2,o2,rfl⟩:=(show zH _ _ _ from ha9).parts;obtain⟨r1,r2,r3,r4,r5,r6,r7,r8⟩:=T3.four;clear c1 c2 c3 c4 c5 c6 c7 c8 d1 d2 d3 d4 d5 d6 d7 d8;go_wp2;have hx:=T3.lext4 dE 0 (.bool m1) (.slice b1 n1 o1) (.bool m2) (.slice b2 n2 o2);exact zBh rfl rfl rfl (T3.put4 _ _ _ _) ⟨_,_,_,_,_,_,_,_,rfl,ha4.ext hx,ha9.ext hx⟩ (jC hB oM 0 _ _ _ _)
theorem zMB(v1 v2:Value)(x1 y1 x2 y2:Int)(w:World)(h1:jS w v1 (x1,y1))(h2:jS w v2 (x2,y2))(sx1:Sm x1)(sy1:Sm y1)(sx2:Sm x2)(sy2:Sm y2):
  Calls Tryz.prog 273 #[v1,v2] w (zDN w (x1*y2,y1*x2)):=by
 have S1:=xgv sx1;have S2:=xgv sy1;have S3:=xgv sx2;have S4:=xgv sy2;clear sx1 sy1 sx2 sy2;obtain⟨s1,a1,l1,k1,s2,a2,l2,k2,rfl,i1,i2⟩:=h1;obtain⟨s3,a3,l3,k3,s4,a4,l4,k4,rfl,i3,i4⟩:=h2;dsimp only at i1 i2 i3 i4;have I1:=xgv i1;have I2:=xgv i2;have I3:=xgv i3;have I4:=xgv i4;clear i1 i2 i3 i4;go_enter Tryz.func273,Tryz.ntmps273;go_upto_region 1 with(fail)
 refine zB ?_;intro W0 hW0;obtain⟨hB0,T1,T2,T3,hs0⟩:=yG hW0;have I1:=xgv (I1.out.ext (lx hB0));have I2:=xgv (I2.out.ext (lx hB0));have I3:=xgv (I3.out.ext (lx hB0));have I4:=xgv (I4.out.ext (lx hB0));obtain⟨c1,c2,c3,c4,c5,c6,c7,c8⟩:=T1.four;obtain⟨d1,d2,d3,d4,d5,d6,d7,d8⟩:=T2.four;clear hW0;refine zC 10 rfl (RV W0 _ [VP 0 5 w.heap.size 0,E 1 6 (.agg #[.bool s1,.slice a1 l1 k1]),VP 2 7 (w.heap.size+1) 2,E 3 8 (.agg #[.bool s4,.slice a4 l4 k4]),EI 4 9 (x1*y2),VP 5 10 w.heap.size 2,E 6 11 (.agg #[.bool s2,.slice a2 l2 k2]),VP 7 12 (w.heap.size+1) 0,E 8 13 (.agg #[.bool s3,.slice a3 l3 k3]),EI 9 14 (y1*x2)]) kR RV.start (RV.fin kR ?fin2) ?steps2
 case steps2=>
  refine⟨?_,?_,?_,?_,?_,?_,?_,?_,?_,?_,trivial⟩<;>(intro L T wS hL hd hcl hI K hK;try refine zA rfl ?_)
  ·exact xgs (hI.k 2 rfl kR)
  ·have zt0:=hI.e mm0 (hd 0)
   have cc0:=hI.cell c1;have cc1:=hI.cell c2;exact xgu
  ·exact xgs (hI.k 3 rfl kR)
  ·have zt2:=hI.e mm2 (hd 2)
   have cc0:=hI.cell d3;have cc1:=hI.cell d4;exact xgu
  ·have zt1:=hI.e mm1 (hd 1)
   have zt3:=hI.e mm3 (hd 3);go_simp;refine(jM _ _ x1 y2 _ (I1.out.ext (lx hI.bel)).weak (I4.out.ext (lx hI.bel)).weak S1.out S4.out).mono ?_;exact xgo
  ·exact xgs (hI.k 2 rfl kR)
  ·have zt5:=hI.e mm5 (hd 5)
   have cc0:=hI.cell c3;have cc1:=hI.cell c4;exact xgu
  ·exact xgs (hI.k 3 rfl kR)
  ·have zt7:=hI.e mm7 (hd 7)
   have cc0:=hI.cell d1;have cc1:=hI.cell d2;exact xgu
  ·have zt6:=hI.e mm6 (hd 6)
   have zt8:=hI.e mm8 (hd 8);go_simp;refine(jM _ _ y1 x2 _ (I2.out.ext (lx hI.bel)).weak (I3.out.ext (lx hI.bel)).weak S2.out S3.out).mono ?_;exact xgo
 intro w1 hbw1 T hT;simp only[Fin,E,EI,VP,VSl,VN,xgg,xgh,xgi,xgj]at hT;obtain⟨va4,ha4,va9,ha9,rfl⟩:=hT;simp only[xgl,xgk];have T3:=T3.below hbw1;have hB:=nx hB0 hbw1;obtain⟨m1,b1,n1,o1,rfl⟩:=(show zH _ _ _ from ha4).parts;obtain⟨m2,b2,n2,o2,rfl⟩:=(show zH _ _ _ from ha9).parts;obtain⟨r1,r2,r3,r4,r5,r6,r7,r8⟩:=T3.four;clear c1 c2 c3 c4 c5 c6 c7 c8 d1 d2 d3 d4 d5 d6 d7 d8;go_wp2;have hx:=T3.lext4 dE 0 (.bool m1) (.slice b1 n1 o1) (.bool m2) (.slice b2 n2 o2);exact zBh rfl rfl rfl (T3.put4 _ _ _ _) ⟨_,_,_,_,_,_,_,_,rfl,ha4.ext hx,ha9.ext hx⟩ (jC hB oM 0 _ _ _ _)
theorem zMA(v1 v2:Value)(x1 y1 x2 y2:Int)(w:World)(h1:jS w v1 (x1,y1))(h2:jS w v2 (x2,y2))(sx1:Sm x1)(sy1:Sm y1)(sx2:Sm x2)(sy2:Sm y2)(sm1:Sm (x1*y2))(sm2:Sm (x2*y1)):
  Calls Tryz.prog 276 #[v1,v2] w (zDN w (x1*y2+x2*y1,y1*y2)):=by
 have S1:=xgv sx1;have S2:=xgv sy1;have S3:=xgv sx2;have S4:=xgv sy2;have S5:=xgv sm1;have S6:=xgv sm2;clear sx1 sy1 sx2 sy2 sm1 sm2;obtain⟨s1,a1,l1,k1,s2,a2,l2,k2,rfl,i1,i2⟩:=h1;obtain⟨s3,a3,l3,k3,s4,a4,l4,k4,rfl,i3,i4⟩:=h2;dsimp only at i1 i2 i3 i4;have I1:=xgv i1;have I2:=xgv i2;have I3:=xgv i3;have I4:=xgv i4;clear i1 i2 i3 i4;go_enter Tryz.func276,Tryz.ntmps276;go_upto_region 1 with(fail)
 refine zB ?_;intro W0 hW0;obtain⟨hB0,T1,T2,T3,hs0⟩:=yG hW0;have I1:=xgv (I1.out.ext (lx hB0));have I2:=xgv (I2.out.ext (lx hB0));have I3:=xgv (I3.out.ext (lx hB0));have I4:=xgv (I4.out.ext (lx hB0));obtain⟨c1,c2,c3,c4,c5,c6,c7,c8⟩:=T1.four;obtain⟨d1,d2,d3,d4,d5,d6,d7,d8⟩:=T2.four;clear hW0;refine zC 16 rfl (RV W0 _ [VP 0 5 w.heap.size 0,E 1 6 (.agg #[.bool s1,.slice a1 l1 k1]),VP 2 7 (w.heap.size+1) 2,E 3 8 (.agg #[.bool s4,.slice a4 l4 k4]),EI 4 9 (x1*y2),VP 5 10 (w.heap.size+1) 0,E 6 11 (.agg #[.bool s3,.slice a3 l3 k3]),VP 7 12 w.heap.size 2,E 8 13 (.agg #[.bool s2,.slice a2 l2 k2]),EI 9 14 (x2*y1),EI 10 15 (x1*y2+x2*y1),VP 11 16 w.heap.size 2,E 12 17 (.agg #[.bool s2,.slice a2 l2 k2]),VP 13 18 (w.heap.size+1) 2,E 14 19 (.agg #[.bool s4,.slice a4 l4 k4]),EI 15 20 (y1*y2)]) kR RV.start (RV.fin kR ?fin3) ?steps3
 case steps3=>
  refine⟨?_,?_,?_,?_,?_,?_,?_,?_,?_,?_,?_,?_,?_,?_,?_,?_,trivial⟩<;>(intro L T wS hL hd hcl hI K hK;try refine zA rfl ?_)
  ·exact xgs (hI.k 2 rfl kR)
  ·have zt0:=hI.e mm0 (hd 0)
   have cc0:=hI.cell c1;have cc1:=hI.cell c2;exact xgu
  ·exact xgs (hI.k 3 rfl kR)
  ·have zt2:=hI.e mm2 (hd 2)
   have cc0:=hI.cell d3;have cc1:=hI.cell d4;exact xgu
  ·have zt1:=hI.e mm1 (hd 1)
   have zt3:=hI.e mm3 (hd 3);go_simp;refine(jM _ _ x1 y2 _ (I1.out.ext (lx hI.bel)).weak (I4.out.ext (lx hI.bel)).weak S1.out S4.out).mono ?_;exact xgo
  ·exact xgs (hI.k 3 rfl kR)
  ·have zt5:=hI.e mm5 (hd 5)
   have cc0:=hI.cell d1;have cc1:=hI.cell d2;exact xgu
  ·exact xgs (hI.k 2 rfl kR)
  ·have zt7:=hI.e mm7 (hd 7)
   have cc0:=hI.cell c3;have cc1:=hI.cell c4;exact xgu
  ·have zt6:=hI.e mm6 (hd 6)
   have zt8:=hI.e mm8 (hd 8);go_simp;refine(jM _ _ x2 y1 _ (I3.out.ext (lx hI.bel)).weak (I2.out.ext (lx hI.bel)).weak S3.out S2.out).mono ?_;exact xgo
  ·obtain⟨v4,zt4,h4⟩:=hI.vi mm4 (hd 4)
   obtain⟨v9,zt9,h9⟩:=hI.vi mm9 (hd 9);go_simp;refine(zBv _ _ (x1*y2) (x2*y1) _ h4.weak h9.weak S5.out S6.out).mono ?_;exact xgo
  ·exact xgs (hI.k 2 rfl kR)
  ·have zt11:=hI.e zAJ (hd 11)
   have cc0:=hI.cell c3;have cc1:=hI.cell c4;exact xgu
  ·exact xgs (hI.k 3 rfl kR)
  ·have zt13:=hI.e zCF (hd 13)
   have cc0:=hI.cell d3;have cc1:=hI.cell d4;exact xgu
  ·have zt12:=hI.e zAo (hd 12)
   have zt14:=hI.e zBp (hd 14);go_simp;refine(jM _ _ y1 y2 _ (I2.out.ext (lx hI.bel)).weak (I4.out.ext (lx hI.bel)).weak S2.out S4.out).mono ?_;exact xgo
 intro w1 hbw1 T hT;simp only[Fin,E,EI,VP,VSl,VN,xgg,xgh,xgi,xgj]at hT;obtain⟨va4,ha4,va9,ha9,va10,ha10,va15,ha15,rfl⟩:=hT;simp only[xgl,xgk];have T3:=T3.below hbw1;have hB:=nx hB0 hbw1;obtain⟨m1,b1,n1,o1,rfl⟩:=(show zH _ _ _ from ha10).parts;obtain⟨m2,b2,n2,o2,rfl⟩:=(show zH _ _ _ from ha15).parts;obtain⟨r1,r2,r3,r4,r5,r6,r7,r8⟩:=T3.four;clear c1 c2 c3 c4 c5 c6 c7 c8 d1 d2 d3 d4 d5 d6 d7 d8;go_wp2;have hx:=T3.lext4 dE 0 (.bool m1) (.slice b1 n1 o1) (.bool m2) (.slice b2 n2 o2);exact zBh rfl rfl rfl (T3.put4 _ _ _ _) ⟨_,_,_,_,_,_,_,_,rfl,ha10.ext hx,ha15.ext hx⟩ (jC hB oM 0 _ _ _ _)
theorem zFQ(v:Value)(n d:Int)(w:World)(h:jS w v (n,d))(sn:Sm n)(sd:Sm d)(h0:d≠0):
  Calls Tryz.prog 271 #[v] w (zAR w (Rat.divInt n d)):=by
 obtain⟨s1,a1,l1,k1,s2,a2,l2,k2,rfl,i1,i2⟩:=h;dsimp only at i1 i2;have I1:=xgv i1;have I2:=xgv i2;have S1:=xgv sn;have S2:=xgv sd;have hgle:(Int.gcd n d:Int).natAbs<=d.natAbs:=by
  rw[Int.natAbs_natCast];exact Nat.le_of_dvd (Int.natAbs_pos.2 h0) (Int.natAbs_dvd_natAbs.2 (Int.gcd_dvd_right n d)|>fun h=>by simpa using h)
 have SG:qF (Sm (Int.gcd n d:Int)):=⟨sd.mono hgle⟩;have SL:qF (Sm (zHm n d)):=⟨sd.mono (by unfold zHm;split<;>omega)⟩;have HL0:=xgv (zKm (n:=n) h0);have HNUM:=xgv (zHo (n:=n) h0);have HDEN:=xgv (zHn (n:=n) h0);have HG:qF (zHm n d=if d<0 then-((Int.gcd n d:Nat):Int)else((Int.gcd n d:Nat):Int)):=⟨rfl⟩;obtain⟨L,hL⟩:∃L,zHm n d=L:=⟨_,rfl⟩;obtain⟨g,hg⟩:∃g:Int,((Int.gcd n d:Nat):Int)=g:=⟨_,rfl⟩;rw[hL]at SL HL0 HNUM HDEN HG;rw[hg]at SG HG;have HGC:qF (∀(v1 v2:Value) (w:World),zH w v1 n->zH w v2 d->Calls Tryz.prog 239 #[v1,v2] w (jL w g)):=⟨fun v1 v2 w k1 k2=>hg ▸ zKU v1 v2 n d w k1 k2 S1.out S2.out⟩;obtain⟨k,hk⟩:∃k,qJ d 0=k:=⟨_,rfl⟩;have hk0:k≠0:=by rw[<-hk];unfold qJ;split<;>(try split)<;>omega
 have hk0':(k==0)=false:=by simpa using hk0
 have HK:qF (k<0↔d<0):=⟨by rw[<-hk];unfold qJ;split<;>(try split)<;>omega⟩;have HSG:qF (∀(v:Value) (w:World),zH w v d->Calls Tryz.prog 160 #[v] w fun e w'=>e= .returned (.int .i64 k)/\Below w.heap.size w w'):=⟨fun v w hv=>hk ▸ qU v d w hv.weak⟩;clear i1 i2 sn sd hgle hL hg hk h0;go_enter Tryz.func271,Tryz.ntmps271;go_upto_region 1 with(fail)
 refine zB ?_;intro W0 hW0;obtain⟨hB0,T1,T2,hs0⟩:=qI hW0;have I1:=xgv (I1.out.ext (lx hB0));have I2:=xgv (I2.out.ext (lx hB0));obtain⟨c1,c2,c3,c4,c5,c6,c7,c8⟩:=T1.four;clear hW0;go_wp2_with fail
 refine(HSG.out _ W0 I2.out).mono ?_;rintro e w1 ⟨rfl,hb1⟩;have T1:=T1.below hb1;have T2:=T2.below hb1;have I1:=xgv (I1.out.ext (lx hb1));have I2:=xgv (I2.out.ext (lx hb1));have hB:=nx hB0 hb1;clear c1 c2 c3 c4 c5 c6 c7 c8;obtain⟨c1,c2,c3,c4,c5,c6,c7,c8⟩:=T1.four;go_wp2_with fail
 refine(HGC.out _ _ w1 I1.out I2.out).mono ?_;rintro e w2 ⟨gv,rfl,hgv,hb2⟩;obtain⟨gs,ga,gl,gc,rfl⟩:=hgv.parts;have T1:=T1.below hb2;have T2:=T2.below hb2;have I1:=xgv (I1.out.ext (lx hb2));have I2:=xgv (I2.out.ext (lx hb2));have IG:=xgv hgv;have hB:=nx hB hb2;clear c1 c2 c3 c4 c5 c6 c7 c8 hgv;go_upto_region 4 with(fail)
 refine zB ?_;intro W3 hW3;obtain⟨hB3,T3,hs3⟩:=zK hW3;have T1:=T1.below hB3;have T2:=T2.below hB3;have I1:=xgv (I1.out.ext (lx hB3));have I2:=xgv (I2.out.ext (lx hB3));have IG:=xgv (IG.out.ext (lx hB3));have hB:=nx hB hB3;clear hW3;obtain⟨c1,c2,c3,c4,c5,c6,c7,c8⟩:=T1.four;go_wp2_with fail
 refine(HSG.out _ W3 I2.out).mono ?_;rintro e w4 ⟨rfl,hb4⟩;have T1:=T1.below hb4;have T2:=T2.below hb4;have T3:=T3.below hb4;have I1:=xgv (I1.out.ext (lx hb4));have I2:=xgv (I2.out.ext (lx hb4));have IG:=xgv (IG.out.ext (lx hb4));have hB:=nx hB hb4;clear c1 c2 c3 c4 c5 c6 c7 c8;clear HSG HGC;by_cases hneg:d<0
 ·have hkn:k<0:=HK.out.2 hneg
  have HGL:qF (-g=L):=⟨by have:=HG.out;rw[if_pos hneg]at this;exact this.symm⟩;clear hneg;obtain⟨g1,g2,g3,g4⟩:=T3.two;go_wp2_with fail
  refine(jN _ g w4 IG.out.weak SG.out).mono ?_;rintro e w5 ⟨lv,rfl,hlv,hb5⟩;rw[HGL.out]at hlv;obtain⟨ls,la,ll,lc,rfl⟩:=hlv.parts;have T1:=T1.below hb5;have T2:=T2.below hb5;have T3:=T3.below hb5;have I1:=xgv (I1.out.ext (lx hb5));have I2:=xgv (I2.out.ext (lx hb5));have HLV:=xgv hlv;have q3:=T3.lt;have hB:=nx hB hb5;clear g1 g2 g3 g4 hlv;obtain⟨g1,g2,g3,g4⟩:=T3.two;go_upto_region 6 with(fail)
  refine zB ?_;intro W6 hW6;have hx:yO w5 W6:=by rw[hW6.out];exact T3.lext2 dE _ _
  have T1:Blk W6 _ _ _:=(show W6.heap[w.heap.size]?=_ by rw[hW6.out];exact zR _ _ _ _ _ _ _ (by have:=hB0.size;have:=hb1.size;have:=hb2.size;omega)).trans T1;have T2:Blk W6 _ _ _:=(show W6.heap[w.heap.size+1]?=_ by rw[hW6.out];exact zR _ _ _ _ _ _ _ (by have:=hb1.size;have:=hb2.size;omega)).trans T2;have T3:Blk W6 w2.heap.size 35 #[.bool ls,.slice la ll lc]:=by rw[hW6.out];exact T3.put2 _ _
  have hB:Below w.heap.size w W6:=by rw[hW6.out];exact zT (zT hB (by have:=hB0.size;have:=hb1.size;have:=hb2.size;omega) _ _) (by have:=hB0.size;have:=hb1.size;have:=hb2.size;omega) _ _
  have I1:=xgv (I1.out.ext hx);have I2:=xgv (I2.out.ext hx);have HLV:=xgv (HLV.out.ext hx);clear hW6 g1 g2 g3 g4 hx;obtain⟨c1,c2,c3,c4,c5,c6,c7,c8⟩:=T1.four;obtain⟨g1,g2,g3,g4⟩:=T3.two;go_wp2_with fail
  refine(jT _ _ n L W6 I1.out.weak HLV.out.weak S1.out SL.out HL0.out).mono ?_;rintro e w7 ⟨qv,rv,rfl,hq,hr,hb7⟩;rw[HNUM.out]at hq;obtain⟨qs,qa,ql,qc,rfl⟩:=hq.parts;obtain⟨rs,ra,rl,rc,rfl⟩:=hr.parts;have T1:=T1.below hb7;have T2:=T2.below hb7;have T3:=T3.below hb7;have I2:=xgv (I2.out.ext (lx hb7));have HLV:=xgv (HLV.out.ext (lx hb7));have HQ1:=xgv hq;have hB:=nx hB hb7;clear hq hr c1 c2 c3 c4 c5 c6 c7 c8 g1 g2 g3 g4;go_upto_region 7 with(fail)
  refine zB ?_;intro W8 hW8;obtain⟨hB8,T4,T5,hs8⟩:=qI hW8;have T1:=T1.below hB8;have T2:=T2.below hB8;have T3:=T3.below hB8;have I2:=xgv (I2.out.ext (lx hB8));have HLV:=xgv (HLV.out.ext (lx hB8));have HQ1:=xgv (HQ1.out.ext (lx hB8));have hB:=nx hB hB8;clear hW8;obtain⟨c1,c2,c3,c4,c5,c6,c7,c8⟩:=T1.four;obtain⟨g1,g2,g3,g4⟩:=T3.two;go_wp2_with fail
  refine(jT _ _ d L W8 I2.out.weak HLV.out.weak S2.out SL.out HL0.out).mono ?_;rintro e w9 ⟨dv,ev,rfl,hd,he,hb9⟩;rw[HDEN.out]at hd;obtain⟨ds,da,dl,dc,rfl⟩:=hd.parts;obtain⟨es,ea,el,ec,rfl⟩:=he.parts;have T2:=T2.below hb9;have T4:=T4.below hb9;have HQ1:=xgv (HQ1.out.ext (lx hb9));have HQ2:=xgv hd;have hB:=nx hB hb9;clear hd he c1 c2 c3 c4 c5 c6 c7 c8 g1 g2 g3 g4 T1 T3;go_upto_region 8 with(fail)
  refine zB ?_;intro W10 hW10;obtain⟨hB10,T6,T7,hs10⟩:=qI hW10;have T2:=T2.below hB10;have T4:=T4.below hB10;have HQ1:=xgv (HQ1.out.ext (lx hB10));have HQ2:=xgv (HQ2.out.ext (lx hB10));have hB:=nx hB hB10;clear hW10;obtain⟨g1,g2,g3,g4⟩:=T4.two;obtain⟨f1,f2,f3,f4⟩:=T6.two;obtain⟨r1,r2,r3,r4,r5,r6,r7,r8⟩:=T2.four;go_wp2;have hx:=T2.lext4 dE 0 (.bool qs) (.slice qa ql qc) (.bool ds) (.slice da dl dc);exact qN rfl rfl rfl (T2.put4 _ _ _ _) ⟨_,_,_,_,_,_,_,_,rfl,HQ1.out.ext hx,HQ2.out.ext hx⟩ (jC hB oM 0 _ _ _ _)
 ·have hkn:¬ k<0:=fun h=>hneg (HK.out.1 h)
  have HGL:qF (g=L):=⟨by have:=HG.out;rw[if_neg hneg]at this;exact this.symm⟩;have HLV:=HGL.out ▸ IG;clear hneg;go_upto_region 6 with(fail)
  obtain⟨c1,c2,c3,c4,c5,c6,c7,c8⟩:=T1.four;obtain⟨g1,g2,g3,g4⟩:=T3.two;go_wp2_with fail
  refine(jT _ _ n L w4 I1.out.weak HLV.out.weak S1.out SL.out HL0.out).mono ?_;rintro e w7 ⟨qv,rv,rfl,hq,hr,hb7⟩;rw[HNUM.out]at hq;obtain⟨qs,qa,ql,qc,rfl⟩:=hq.parts;obtain⟨rs,ra,rl,rc,rfl⟩:=hr.parts;have T1:=T1.below hb7;have T2:=T2.below hb7;have T3:=T3.below hb7;have I2:=xgv (I2.out.ext (lx hb7));have HLV:=xgv (HLV.out.ext (lx hb7));have HQ1:=xgv hq;have hB:=nx hB hb7;clear hq hr c1 c2 c3 c4 c5 c6 c7 c8 g1 g2 g3 g4;go_upto_region 7 with(fail)
  refine zB ?_;intro W8 hW8;obtain⟨hB8,T4,T5,hs8⟩:=qI hW8;have T1:=T1.below hB8;have T2:=T2.below hB8;have T3:=T3.below hB8;have I2:=xgv (I2.out.ext (lx hB8));have HLV:=xgv (HLV.out.ext (lx hB8));have HQ1:=xgv (HQ1.out.ext (lx hB8));have hB:=nx hB hB8;clear hW8;obtain⟨c1,c2,c3,c4,c5,c6,c7,c8⟩:=T1.four;obtain⟨g1,g2,g3,g4⟩:=T3.two;go_wp2_with fail
  refine(jT _ _ d L W8 I2.out.weak HLV.out.weak S2.out SL.out HL0.out).mono ?_;rintro e w9 ⟨dv,ev,rfl,hd,he,hb9⟩;rw[HDEN.out]at hd;obtain⟨ds,da,dl,dc,rfl⟩:=hd.parts;obtain⟨es,ea,el,ec,rfl⟩:=he.parts;have T2:=T2.below hb9;have T4:=T4.below hb9;have HQ1:=xgv (HQ1.out.ext (lx hb9));have HQ2:=xgv hd;have hB:=nx hB hb9;clear hd he c1 c2 c3 c4 c5 c6 c7 c8 g1 g2 g3 g4 T1 T3;go_upto_region 8 with(fail)
  refine zB ?_;intro W10 hW10;obtain⟨hB10,T6,T7,hs10⟩:=qI hW10;have T2:=T2.below hB10;have T4:=T4.below hB10;have HQ1:=xgv (HQ1.out.ext (lx hB10));have HQ2:=xgv (HQ2.out.ext (lx hB10));have hB:=nx hB hB10;clear hW10;obtain⟨g1,g2,g3,g4⟩:=T4.two;obtain⟨f1,f2,f3,f4⟩:=T6.two;obtain⟨r1,r2,r3,r4,r5,r6,r7,r8⟩:=T2.four;go_wp2;have hx:=T2.lext4 dE 0 (.bool qs) (.slice qa ql qc) (.bool ds) (.slice da dl dc);exact qN rfl rfl rfl (T2.put4 _ _ _ _) ⟨_,_,_,_,_,_,_,_,rfl,HQ1.out.ext hx,HQ2.out.ext hx⟩ (jC hB oM 0 _ _ _ _)
theorem zKv{g:FuncId}(hg:g=276∨g=277∨g=273)(bd v:Value)(x y X Y:Int)(w:World)(hv:jS w v (x,y))
  (hc:∀(u:Value) (W:World),Below w.heap.size w W->jS W u (x,y)->Calls Tryz.prog g #[bd,u] W (zDN W (X,Y))) (sX:Sm X) (sY:Sm Y) (h0:Y≠0):
  Calls Tryz.prog 274 #[.agg #[.func (.func g) #[bd] #[]],v] w (zAR w (Rat.divInt X Y)):=by
 obtain⟨s1,a1,l1,k1,s2,a2,l2,k2,rfl,i1,i2⟩:=hv;dsimp only at i1 i2;have I1:=xgv i1;have I2:=xgv i2;have HC:=xgv hc;have SX:=xgv sX;have SY:=xgv sY;have H0:=xgv h0;clear i1 i2 hc sX sY h0;go_enter Tryz.func274,Tryz.ntmps274;go_upto_region 1 with(fail)
 refine zB ?_;intro W0 hW0;obtain⟨hB0,T1,T2,T3,hs0⟩:=yG hW0;have I1:=xgv (I1.out.ext (lx hB0));have I2:=xgv (I2.out.ext (lx hB0));have HC:=xgv (HC.out (.agg #[.bool s1,.slice a1 l1 k1,.bool s2,.slice a2 l2 k2]) W0 hB0 ⟨_,_,_,_,_,_,_,_,rfl,I1.out,I2.out⟩);have c1:=T1.cell 0;obtain⟨d1,d2,d3,d4,d5,d6,d7,d8⟩:=T2.four;clear hW0;rcases hg with rfl|rfl|rfl<;>(
  go_wp2_with fail
  refine HC.out.mono ?_;rintro e w1 ⟨u,rfl,hu,hb1⟩;obtain⟨s3,a3,l3,k3,s4,a4,l4,k4,rfl,i3,i4⟩:=id hu;have T3:=T3.below hb1;have HU:=xgv hu;have hB:=nx hB0 hb1;clear hu i3 i4;go_wp2_with fail
  refine(zFQ _ X Y w1 HU.out SX.out SY.out H0.out).mono ?_;rintro e w2 ⟨rv,rfl,hr,hb2⟩;obtain⟨s5,a5,l5,k5,s6,a6,l6,k6,rfl,i5,i6⟩:=hr;have I5:=xgv i5;have I6:=xgv i6;have T3:=T3.below hb2;have hB:=nx hB hb2;obtain⟨r1,r2,r3,r4,r5,r6,r7,r8⟩:=T3.four;clear i5 i6;go_wp2;have hx:=T3.lext4 dE 0 (.bool s5) (.slice a5 l5 k5) (.bool s6) (.slice a6 l6 k6);exact qN rfl rfl rfl (T3.put4 _ _ _ _) ⟨_,_,_,_,_,_,_,_,rfl,I5.out.ext hx,I6.out.ext hx⟩ (jC hB oM 0 _ _ _ _))
theorem zMx{a b:Nat}(v1 v2:Value)(p q:Rat)(w:World)(h1:jW w v1 p)(h2:jW w v2 q)(hp:HQ a p)(hq:HQ b q)(hab:a+b+1<=1000000):Calls Tryz.prog 240 #[v1,v2] w (zAR w (p+q)):=by
 obtain⟨e1,e2,e3,e4,e5⟩:=HQ.ints hp hq;have hdp:((p.den:Int)).natAbs<2^a:=by rw[Int.natAbs_natCast];exact hp.2
 have hdq:((q.den:Int)).natAbs<2^b:=by rw[Int.natAbs_natCast];exact hq.2
 have HON:qF (∀(u1 v:Value) (w:World),jS w u1 (p.num,(p.den:Int))->jS w v (q.num,(q.den:Int))->Calls Tryz.prog 274 #[.agg #[.func (.func 276) #[u1] #[]],v] w (zAR w (p+q))):=⟨fun u1 v w k1 k2=>by
  rw[zDO];exact zKv (.inl rfl) u1 v q.num q.den _ _ w k2 (fun u W hW hu=>zMA u1 u p.num p.den q.num q.den W (k1.below hW) hu (qL hp.1 oM) (qL hdp oM) (qL hq.1 oM) (qL hdq oM) (qL e1 oM) (qL e2 oM))
   (qL (zPv e1 e2) oM) (qL e4 oM) (zDP p q)⟩
 clear e1 e2 e3 e4 e5 hdp hdq hp hq hab;obtain⟨s1,a1,l1,k1,s2,a2,l2,k2,rfl,i1,i2⟩:=h1;obtain⟨s3,a3,l3,k3,s4,a4,l4,k4,rfl,i3,i4⟩:=id h2;have I1:=xgv i1;have I2:=xgv i2;have H2:=xgv h2;clear i1 i2 i3 i4 h2;go_enter Tryz.func240,Tryz.ntmps240;go_upto_region 1 with(fail)
 refine zB ?_;intro W0 hW0;obtain⟨hB0,T1,T2,T3,hs0⟩:=yG hW0;have I1:=xgv (I1.out.ext (lx hB0));have I2:=xgv (I2.out.ext (lx hB0));have H2:=xgv (H2.out.ext (lx hB0));obtain⟨c1,c2,c3,c4,c5,c6,c7,c8⟩:=T1.four;obtain⟨d1,d2,d3,d4,d5,d6,d7,d8⟩:=T2.four;clear hW0;go_wp2_with fail
 refine(HON.out _ _ W0 ⟨_,_,_,_,_,_,_,_,rfl,I1.out,I2.out⟩ H2.out).mono ?_;rintro e w2 ⟨rv,rfl,hr,hb2⟩;obtain⟨s5,a5,l5,k5,s6,a6,l6,k6,rfl,i5,i6⟩:=hr;have I5:=xgv i5;have I6:=xgv i6;have T3:=T3.below hb2;have hB:=nx hB0 hb2;obtain⟨r1,r2,r3,r4,r5,r6,r7,r8⟩:=T3.four;clear i5 i6 c1 c2 c3 c4 c5 c6 c7 c8 d1 d2 d3 d4 d5 d6 d7 d8;go_wp2;have hx:=T3.lext4 dE 0 (.bool s5) (.slice a5 l5 k5) (.bool s6) (.slice a6 l6 k6);exact qN rfl rfl rfl (T3.put4 _ _ _ _) ⟨_,_,_,_,_,_,_,_,rfl,I5.out.ext hx,I6.out.ext hx⟩ (jC hB oM 0 _ _ _ _)
theorem zM2{a b:Nat}(v1 v2:Value)(p q:Rat)(w:World)(h1:jW w v1 p)(h2:jW w v2 q)(hp:HQ a p)(hq:HQ b q)(hab:a+b+1<=1000000):Calls Tryz.prog 241 #[v1,v2] w (zAR w (p*q)):=by
 obtain⟨e1,e2,e3,e4,e5⟩:=HQ.ints hp hq;have hdp:((p.den:Int)).natAbs<2^a:=by rw[Int.natAbs_natCast];exact hp.2
 have hdq:((q.den:Int)).natAbs<2^b:=by rw[Int.natAbs_natCast];exact hq.2
 have HON:qF (∀(u1 v:Value) (w:World),jS w u1 (p.num,(p.den:Int))->jS w v (q.num,(q.den:Int))->Calls Tryz.prog 274 #[.agg #[.func (.func 277) #[u1] #[]],v] w (zAR w (p*q))):=⟨fun u1 v w k1 k2=>by
  rw[zDY];exact zKv (.inr (.inl rfl)) u1 v q.num q.den _ _ w k2 (fun u W hW hu=>zME u1 u p.num p.den q.num q.den W (k1.below hW) hu (qL hp.1 oM) (qL hdp oM) (qL hq.1 oM) (qL hdq oM))
   (qL e3 oM) (qL e4 oM) (zDP p q)⟩
 clear e1 e2 e3 e4 e5 hdp hdq hp hq hab;obtain⟨s1,a1,l1,k1,s2,a2,l2,k2,rfl,i1,i2⟩:=h1;obtain⟨s3,a3,l3,k3,s4,a4,l4,k4,rfl,i3,i4⟩:=id h2;have I1:=xgv i1;have I2:=xgv i2;have H2:=xgv h2;clear i1 i2 i3 i4 h2;go_enter Tryz.func241,Tryz.ntmps241;go_upto_region 1 with(fail)
 refine zB ?_;intro W0 hW0;obtain⟨hB0,T1,T2,T3,hs0⟩:=yG hW0;have I1:=xgv (I1.out.ext (lx hB0));have I2:=xgv (I2.out.ext (lx hB0));have H2:=xgv (H2.out.ext (lx hB0));obtain⟨c1,c2,c3,c4,c5,c6,c7,c8⟩:=T1.four;obtain⟨d1,d2,d3,d4,d5,d6,d7,d8⟩:=T2.four;clear hW0;go_wp2_with fail
 refine(HON.out _ _ W0 ⟨_,_,_,_,_,_,_,_,rfl,I1.out,I2.out⟩ H2.out).mono ?_;rintro e w2 ⟨rv,rfl,hr,hb2⟩;obtain⟨s5,a5,l5,k5,s6,a6,l6,k6,rfl,i5,i6⟩:=hr;have I5:=xgv i5;have I6:=xgv i6;have T3:=T3.below hb2;have hB:=nx hB0 hb2;obtain⟨r1,r2,r3,r4,r5,r6,r7,r8⟩:=T3.four;clear i5 i6 c1 c2 c3 c4 c5 c6 c7 c8 d1 d2 d3 d4 d5 d6 d7 d8;go_wp2;have hx:=T3.lext4 dE 0 (.bool s5) (.slice a5 l5 k5) (.bool s6) (.slice a6 l6 k6);exact qN rfl rfl rfl (T3.put4 _ _ _ _) ⟨_,_,_,_,_,_,_,_,rfl,I5.out.ext hx,I6.out.ext hx⟩ (jC hB oM 0 _ _ _ _)
theorem zIm(w:World){v1 v2:Value}{z:Int}(h1:zH w v1 z)(h2:zH w v2 1):∃s a l c s' a' l' c',v1= .agg #[.bool s,.slice a l c]/\v2= .agg #[.bool s',.slice a' l' c']/\jW w (.agg #[.bool s,.slice a l c,.bool s',.slice a' l' c']) (z:Rat):=by
 obtain⟨s,a,l,c,rfl⟩:=h1.parts;obtain⟨s',a',l',c',rfl⟩:=h2.parts;exact⟨s,a,l,c,s',a',l',c',rfl,rfl,_,_,_,_,_,_,_,_,rfl,by rw[Rat.num_intCast];exact h1,by rw[Rat.den_intCast];exact h2⟩
theorem zDf(v:Value)(z:Int)(w:World)(h:zH w v z)(hs:Sm z):Calls Tryz.prog 234 #[v] w (zAR w (z:Rat)):=by
 obtain⟨s1,a1,l1,k1,rfl⟩:=h.parts;have H:=xgv h;have S:=xgv hs;have HAD:qF (∀(v1:Value) (w:World),zH w v1 z->Calls Tryz.prog 156 #[v1,.agg #[.bool false,.slice none 0 0]] w (jL w z)):=⟨fun v1 w k=>by
  have:=zBv v1 (.agg #[.bool false,.slice none 0 0]) z 0 w k.weak (zAA w).weak S.out (Smd.one (z:=0) dE).sm;rwa[Int.add_zero]at this⟩
 clear h hs;go_enter Tryz.func234,Tryz.ntmps234;go_upto_region 1 with(fail)
 refine zB ?_;intro W0 hW0;obtain⟨hB0,T1,T2,hs0⟩:=qI hW0;obtain⟨c1,c2,c3,c4⟩:=T1.two;clear hW0;go_wp2_with fail
 refine(HAD.out _ W0 (H.out.ext (lx hB0))).mono ?_;rintro e w1 ⟨u,rfl,hu,hb1⟩;have HU:=xgv hu;have T2:=T2.below hb1;have hB:=nx hB0 hb1;clear hu;go_wp2_with fail
 refine(zBF 1 w1 dE dE).mono ?_;rintro e w2 ⟨o,rfl,ho,hb2⟩;obtain⟨s,a,l,c,s',a',l',c',rfl,rfl,hr⟩:=zIm w2 (HU.out.ext (lx hb2)) ho;have HR:=xgv hr;have T2:=T2.below hb2;have hB:=nx hB hb2;obtain⟨r1,r2,r3,r4,r5,r6,r7,r8⟩:=T2.four;clear ho hr c1 c2 c3 c4;go_wp2;have hx:=T2.lext4 dE 0 (.bool s) (.slice a l c) (.bool s') (.slice a' l' c');exact qN rfl rfl rfl (T2.put4 _ _ _ _) (HR.out.ext hx) (jC hB oM 0 _ _ _ _)
theorem zLK(v1 v2:Value)(n d:Int)(w:World)(h1:zH w v1 n)(h2:zH w v2 d)(s1:Sm n)(s2:Sm d)(h0:d≠0):
  Calls Tryz.prog 232 #[v1,v2] w fun e w'=>∃v,e= .returned (.tuple #[v,.int .i64 0])/\jW w' v (Rat.divInt n d)/\Below w.heap.size w w':=by
 obtain⟨n1,a1,l1,k1,rfl⟩:=h1.parts;obtain⟨n2,a2,l2,k2,rfl⟩:=h2.parts;obtain⟨k,hk⟩:∃k,qJ d 0=k:=⟨_,rfl⟩;have hk0:k≠0:=by rw[<-hk];unfold qJ;split<;>(try split)<;>omega
 have hk0':(k==0)=false:=by simpa using hk0
 have HSG:qF (∀(v:Value) (w:World),zH w v d->Calls Tryz.prog 160 #[v] w fun e w'=>e= .returned (.int .i64 k)/\Below w.heap.size w w'):=⟨fun v w hv=>hk ▸ qU v d w hv.weak⟩;have HL:qF (∀(v:Value) (w:World),jS w v (n,d)->Calls Tryz.prog 271 #[v] w (zAR w (Rat.divInt n d))):=⟨fun v w hv=>zFQ v n d w hv s1 s2 h0⟩;have I1:=xgv h1;have I2:=xgv h2;clear h1 h2 s1 s2 h0 hk;go_enter Tryz.func232,Tryz.ntmps232;go_upto_region 1 with(fail)
 refine zB ?_;intro W0 hW0;obtain⟨hB0,T1,T2,T3,hs0⟩:=yG hW0;have I1:=xgv (I1.out.ext (lx hB0));have I2:=xgv (I2.out.ext (lx hB0));obtain⟨c1,c2,c3,c4⟩:=T1.two;obtain⟨d1,d2,d3,d4⟩:=T2.two;clear hW0;go_wp2_with fail
 refine(HSG.out _ W0 I2.out).mono ?_;rintro e w1 ⟨rfl,hb1⟩;have T1:=T1.below hb1;have T2:=T2.below hb1;have T3:=T3.below hb1;have I1:=xgv (I1.out.ext (lx hb1));have I2:=xgv (I2.out.ext (lx hb1));have hB:=nx hB0 hb1;clear c1 c2 c3 c4 d1 d2 d3 d4;obtain⟨c1,c2,c3,c4⟩:=T1.two;obtain⟨d1,d2,d3,d4⟩:=T2.two;go_wp2_with fail
 refine(HL.out _ w1 ⟨_,_,_,_,_,_,_,_,rfl,I1.out,I2.out⟩).mono ?_;rintro e w2 ⟨rv,rfl,hr,hb2⟩;obtain⟨s5,a5,l5,k5,s6,a6,l6,k6,rfl,i5,i6⟩:=hr;have I5:=xgv i5;have I6:=xgv i6;have T3:=T3.below hb2;have hB:=nx hB hb2;obtain⟨r1,r2,r3,r4,r5,r6,r7,r8⟩:=T3.four;clear i5 i6 c1 c2 c3 c4 d1 d2 d3 d4;go_wp2;have hx:=T3.lext4 dE 0 (.bool s5) (.slice a5 l5 k5) (.bool s6) (.slice a6 l6 k6);exact bodyPost_ret (zCJ rfl _ rfl (T3.put4 _ _ _ _) rfl) rfl ⟨_,rfl,⟨_,_,_,_,_,_,_,_,rfl,I5.out.ext hx,I6.out.ext hx⟩,jC hB oM 0 _ _ _ _⟩
theorem zLO(v:Value)(q:Rat)(w:World)(h:jW w v q):Calls Tryz.prog 272 #[v] w fun e w'=>e= .returned (.int .i64 (qJ q.num 0))/\Below w.heap.size w w':=by
 obtain⟨s1,a1,l1,k1,s2,a2,l2,k2,rfl,i1,i2⟩:=h;dsimp only at i1 i2;obtain⟨k,hk⟩:∃k,qJ q.num 0=k:=⟨_,rfl⟩;rw[hk];have HSG:qF (∀(v:Value) (w:World),zH w v q.num->Calls Tryz.prog 160 #[v] w fun e w'=>e= .returned (.int .i64 k)/\Below w.heap.size w w'):=⟨fun v w hv=>hk ▸ qU v _ w hv.weak⟩;have I1:=xgv i1;clear i1 i2 hk;go_enter Tryz.func272,Tryz.ntmps272;go_upto_region 1 with(fail)
 refine zB ?_;intro W0 hW0;obtain⟨hB0,T1,hs0⟩:=zK hW0;obtain⟨c1,c2,c3,c4,c5,c6,c7,c8⟩:=T1.four;clear hW0;go_wp2_with fail
 refine(HSG.out _ W0 (I1.out.ext (lx hB0))).mono ?_;rintro e w1 ⟨rfl,hb1⟩;go_wp2;go_ret;exact⟨rfl,nx hB0 hb1⟩
theorem zBn(v:Value)(q:Rat)(w:World)(h:jW w v q):Calls Tryz.prog 165 #[v] w fun e w'=>∃u,e= .returned u/\u= .bool (isZ q)/\Below w.heap.size w w':=by
 obtain⟨s1,a1,l1,k1,s2,a2,l2,k2,rfl,i1,i2⟩:=h;dsimp only at i1 i2;obtain⟨b,hb⟩:∃b,isZ q=b:=⟨_,rfl⟩;obtain⟨k,hk⟩:∃k,qJ (q.den:Int) 1=k:=⟨_,rfl⟩;have HKB:qF ((k==0)=b):=⟨by
  rw[<-hb,<-hk];unfold isZ qJ;have:=q.den_nz;by_cases e:(q.den:Int)=1
  ·rw[e];rfl
  ·rw[decide_eq_false e]
   split
   ·rfl
   ·rw[if_pos oM];rfl⟩
 have HC:qF (∀(v1 v2:Value) (w:World),zH w v1 (q.den:Int)->zH w v2 1->Calls Tryz.prog 176 #[v1,v2] w fun e w'=>∃v,e= .returned v/\v= .int .i64 k/\Below w.heap.size w w'):=⟨fun v1 v2 w h1 h2=>(zHU v1 v2 _ 1 w h1.weak h2.weak).mono fun e w' ⟨x,y⟩=>⟨_,x,by rw[hk],y⟩⟩;have I2:=xgv i2;rw[hb];clear i1 i2 hk hb;go_enter Tryz.func165,Tryz.ntmps165;go_upto_region 1 with(fail)
 refine zB ?_;intro W0 hW0;obtain⟨hB0,T1,hs0⟩:=zK hW0;obtain⟨c1,c2,c3,c4,c5,c6,c7,c8⟩:=T1.four;have I2:=xgv (I2.out.ext (lx hB0));clear hW0;refine zE rfl (RV W0 _ [VP 0 3 w.heap.size 2,E 1 4 (.agg #[.bool s2,.slice a2 l2 k2]),EI 2 5 (1),VN 3 6 k,E 4 7 (.bool b),E 5 2 (.bool b)]) kR RV.start (RV.fin kR ?fin1) ?steps1
 case steps1=>
  refine⟨?_,?_,?_,?_,?_,?_,trivial⟩<;>(intro L T wS hL hd hcl hI K hK;try refine zA rfl ?_)
  ·exact xgs (hI.k 1 rfl kR)
  ·have zt0:=hI.e mm0 (hd 0)
   have cc0:=hI.cell c3;have cc1:=hI.cell c4;exact xgu
  ·go_simp
   refine(zBF 1 _ dE dE).mono ?_;exact xgo
  ·have zt1:=hI.e mm1 (hd 1)
   obtain⟨v2,zt2,h2⟩:=hI.vi mm2 (hd 2);go_simp;refine(HC.out _ _ _ (I2.out.ext (lx hI.bel)) h2).mono ?_;rintro e wa ⟨v,rfl,hv,hba⟩;exact hK _ _ ((hI.world hba).y mm3 hv)
  ·have zt3:=hI.e mm3 (hd 3)
   have hkb:=HKB.out;exact xgu
  ·exact xgs (hI.e mm4 (hd 4))
 intro w1 hbw1 T hT;simp only[Fin,E,EI,VP,VSl,VN,xgg,xgh,xgi,xgj]at hT;obtain⟨va2,ha2,rfl⟩:=hT;go_wp2;go_ret;exact⟨_,rfl,rfl,nx hB0 hbw1⟩
theorem zMy{a b:Nat}(v1 v2:Value)(p q:Rat)(w:World)(h1:jW w v1 p)(h2:jW w v2 q)(hp:HQ a p)(hq:HQ b q)(hab:a+b+1<=1000000)(h0:q≠0):
  Calls Tryz.prog 233 #[v1,v2] w fun e w'=>∃v,e= .returned (.tuple #[v,.int .i64 0])/\jW w' v (p/q)/\Below w.heap.size w w':=by
 obtain⟨e1,e2,e3,e4,e5⟩:=HQ.ints hp hq;have hdp:((p.den:Int)).natAbs<2^a:=by rw[Int.natAbs_natCast];exact hp.2
 have hdq:((q.den:Int)).natAbs<2^b:=by rw[Int.natAbs_natCast];exact hq.2
 have HON:qF (∀(u1 v:Value) (w:World),jS w u1 (p.num,(p.den:Int))->jS w v (q.num,(q.den:Int))->Calls Tryz.prog 274 #[.agg #[.func (.func 273) #[u1] #[]],v] w (zAR w (p/q))):=⟨fun u1 v w k1 k2=>by
  rw[zFE];exact zKv (.inr (.inr rfl)) u1 v q.num q.den _ _ w k2 (fun u W hW hu=>zMB u1 u p.num p.den q.num q.den W (k1.below hW) hu (qL hp.1 oM) (qL hdp oM) (qL hq.1 oM) (qL hdq oM))
   (qL e1 oM) (qL e5 oM) (Int.mul_ne_zero (zFC p) (zKt h0))⟩
 obtain⟨k,hk⟩:∃k,qJ q.num 0=k:=⟨_,rfl⟩;have hk0:k≠0:=by rw[<-hk];have:=zKt h0;unfold qJ;split<;>(try split)<;>omega
 have hk0':(k==0)=false:=by simpa using hk0
 have HSG:qF (∀(v:Value) (w:World),jW w v q->Calls Tryz.prog 272 #[v] w fun e w'=>e= .returned (.int .i64 k)/\Below w.heap.size w w'):=⟨fun v w hv=>hk ▸ zLO v q w hv⟩;clear e1 e2 e3 e4 e5 hdp hdq hp hq hab hk h0;obtain⟨s1,a1,l1,k1,s2,a2,l2,k2,rfl,i1,i2⟩:=h1;obtain⟨s3,a3,l3,k3,s4,a4,l4,k4,rfl,i3,i4⟩:=id h2;have I1:=xgv i1;have I2:=xgv i2;have H2:=xgv h2;clear i1 i2 i3 i4 h2;go_enter Tryz.func233,Tryz.ntmps233;go_upto_region 1 with(fail)
 refine zB ?_;intro W0 hW0;obtain⟨hB0,T1,T2,T3,hs0⟩:=yG hW0;have I1:=xgv (I1.out.ext (lx hB0));have I2:=xgv (I2.out.ext (lx hB0));have H2:=xgv (H2.out.ext (lx hB0));obtain⟨c1,c2,c3,c4,c5,c6,c7,c8⟩:=T1.four;obtain⟨d1,d2,d3,d4,d5,d6,d7,d8⟩:=T2.four;clear hW0;go_wp2_with fail
 refine(HSG.out _ W0 H2.out).mono ?_;rintro e w1 ⟨rfl,hb1⟩;have T1:=T1.below hb1;have T2:=T2.below hb1;have T3:=T3.below hb1;have I1:=xgv (I1.out.ext (lx hb1));have I2:=xgv (I2.out.ext (lx hb1));have H2:=xgv (H2.out.ext (lx hb1));have hB0:=nx hB0 hb1;clear c1 c2 c3 c4 c5 c6 c7 c8 d1 d2 d3 d4 d5 d6 d7 d8;obtain⟨c1,c2,c3,c4,c5,c6,c7,c8⟩:=T1.four;obtain⟨d1,d2,d3,d4,d5,d6,d7,d8⟩:=T2.four;go_wp2_with fail
 refine(HON.out _ _ w1 ⟨_,_,_,_,_,_,_,_,rfl,I1.out,I2.out⟩ H2.out).mono ?_;rintro e w2 ⟨rv,rfl,hr,hb2⟩;obtain⟨s5,a5,l5,k5,s6,a6,l6,k6,rfl,i5,i6⟩:=hr;have I5:=xgv i5;have I6:=xgv i6;have T3:=T3.below hb2;have hB:=nx hB0 hb2;obtain⟨r1,r2,r3,r4,r5,r6,r7,r8⟩:=T3.four;clear i5 i6 c1 c2 c3 c4 c5 c6 c7 c8 d1 d2 d3 d4 d5 d6 d7 d8;go_wp2;have hx:=T3.lext4 dE 0 (.bool s5) (.slice a5 l5 k5) (.bool s6) (.slice a6 l6 k6);exact bodyPost_ret (zCJ rfl _ rfl (T3.put4 _ _ _ _) rfl) rfl ⟨_,rfl,⟨_,_,_,_,_,_,_,_,rfl,I5.out.ext hx,I6.out.ext hx⟩,jC hB oM 0 _ _ _ _⟩
def zGI(p:Int × Int):Bool:=decide (0<p.2/\Int.gcd p.1 p.2=1)
theorem zOH(q:Rat):zGI (q.num,(q.den:Int))=true:=by
 unfold zGI;rw[decide_eq_true_eq];exact⟨zL4 q,zOd q⟩
theorem zJa(v:Value)(p:Int × Int)(w:World)(h:jS w v p)(s1:Sm p.1)(s2:Sm p.2):Calls Tryz.prog 179 #[v] w fun e w'=>∃u,e= .returned u/\u= .bool (zGI p)/\Below w.heap.size w w':=by
 obtain⟨n,d⟩:=p;obtain⟨n1,a1,l1,k1,n2,a2,l2,k2,rfl,i1,i2⟩:=h;dsimp only at i1 i2 s1 s2;obtain⟨b,hb⟩:∃b,zGI (n,d)=b:=⟨_,rfl⟩;obtain⟨k,hk⟩:∃k,qJ d 0=k:=⟨_,rfl⟩;have HK:qF (k<=0↔d<=0):=⟨by rw[<-hk];unfold qJ;split<;>(try split)<;>omega⟩;have HSG:qF (∀(v:Value) (w:World),zH w v d->Calls Tryz.prog 160 #[v] w fun e w'=>e= .returned (.int .i64 k)/\Below w.heap.size w w'):=⟨fun v w hv=>hk ▸ qU v d w hv.weak⟩;obtain⟨g,hg⟩:∃g:Int,((Int.gcd n d:Nat):Int)=g:=⟨_,rfl⟩;have HGC:qF (∀(v1 v2:Value) (w:World),zH w v1 n->zH w v2 d->Calls Tryz.prog 239 #[v1,v2] w (jL w g)):=⟨fun v1 v2 w k1 k2=>hg ▸ zKU v1 v2 n d w k1 k2 s1 s2⟩;obtain⟨m,hm⟩:∃m,qJ g 1=m:=⟨_,rfl⟩;have HC:qF (∀(v1 v2:Value) (w:World),zH w v1 g->zH w v2 1->Calls Tryz.prog 176 #[v1,v2] w fun e w'=>e= .returned (.int .i64 m)/\Below w.heap.size w w'):=⟨fun v1 v2 w h1 h2=>hm ▸ zHU v1 v2 _ 1 w h1.weak h2.weak⟩;have HB0:qF (d<=0->b=false):=⟨fun h=>by rw[<-hb];unfold zGI;exact decide_eq_false fun h2=>by have:=h2.1;dsimp only at this;omega⟩;have HB1:qF (¬ d<=0->(m==0)=b):=⟨fun h=>by
  rw[<-hb,<-hm,<-hg];unfold zGI qJ;by_cases e:Int.gcd n d=1
  ·rw[decide_eq_true (show 0<(n,d).2/\Int.gcd (n,d).1 (n,d).2=1 from⟨by dsimp only;omega,e⟩),e];rfl
  ·rw[decide_eq_false fun h2=>e h2.2]
   split
   ·rfl
   ·rw[if_pos oM];rfl⟩
 have I1:=xgv i1;have I2:=xgv i2;rw[hb];clear i1 i2 hk hb hg hm s1 s2;go_enter Tryz.func179,Tryz.ntmps179;go_upto_region 1 with(fail)
 refine zB ?_;intro W0 hW0;obtain⟨hB0,T1,hs0⟩:=zK hW0;obtain⟨c1,c2,c3,c4,c5,c6,c7,c8⟩:=T1.four;have I1:=xgv (I1.out.ext (lx hB0));have I2:=xgv (I2.out.ext (lx hB0));clear hW0;go_wp2_with fail
 refine(zDL _ _ W0 I1.out).mono ?_;rintro e w1 ⟨rfl,hb1⟩;have T1:=T1.below hb1;have I1:=xgv (I1.out.ext (lx hb1));have I2:=xgv (I2.out.ext (lx hb1));have hB:=nx hB0 hb1;clear c1 c2 c3 c4 c5 c6 c7 c8;obtain⟨c1,c2,c3,c4,c5,c6,c7,c8⟩:=T1.four;go_wp2_with fail
 refine(zDL _ _ w1 I2.out).mono ?_;rintro e w2 ⟨rfl,hb2⟩;have T1:=T1.below hb2;have I1:=xgv (I1.out.ext (lx hb2));have I2:=xgv (I2.out.ext (lx hb2));have hB:=nx hB hb2;clear c1 c2 c3 c4 c5 c6 c7 c8;obtain⟨c1,c2,c3,c4,c5,c6,c7,c8⟩:=T1.four;go_wp2_with fail
 refine(HSG.out _ w2 I2.out).mono ?_;rintro e w3 ⟨rfl,hb3⟩;have T1:=T1.below hb3;have I1:=xgv (I1.out.ext (lx hb3));have I2:=xgv (I2.out.ext (lx hb3));have hB:=nx hB hb3;clear c1 c2 c3 c4 c5 c6 c7 c8;obtain⟨c1,c2,c3,c4,c5,c6,c7,c8⟩:=T1.four;by_cases hd:d<=0
 ·have hkk:=HK.out.2 hd
  have hbf:=HB0.out hd;clear HK HB0 HB1;subst hbf;go_wp2;go_ret;exact⟨_,rfl,rfl,hB⟩
 ·have hbt:=HB1.out oM
  have hkk:¬ k<=0:=fun h=>hd (HK.out.1 h)
  clear HK HB0 HB1 hd;go_wp2_with fail
  refine(HGC.out _ _ w3 I1.out I2.out).mono ?_;rintro e w4 ⟨gv,rfl,hgv,hb4⟩;obtain⟨gs,ga,gl,gc,rfl⟩:=hgv.parts;have HG:=xgv hgv;have hB:=nx hB hb4;clear hgv;go_wp2_with fail
  refine(zBF 1 w4 dE dE).mono ?_;rintro e w5 ⟨o,rfl,ho,hb5⟩;have hB:=nx hB hb5;go_wp2_with fail
  refine(HC.out _ _ w5 (HG.out.ext (lx hb5)) ho).mono ?_;rintro e w6 ⟨rfl,hb6⟩;go_wp2;go_ret;exact⟨_,rfl,rfl,nx hB hb6⟩
end Go.Proofs.YtnbmaipobhppcaaGreat
