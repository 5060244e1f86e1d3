/- integer.Gcd. Package rational. Package rational: lowest terms and the operations. Package rational: Whole, Of, Sign, Div, Integral, Valid. Package rational: Div, Valid. torsionref02: Of, of. torsionref02: Whole, Number, Made, Integral, Valid, Add, Mul. torsionref02: Add, Valid. Lists of rational numbers: made, written; bareiss.over. Elimination without fractions, plain: what it leaves has the solutions of what it was given, if every division is exact. -/
import Derived.Test.YtnbmaipobhppcaaGreatE01
import Derived.Test.YtnbmaipobhppcaaGreatE02
import Derived.Test.YtnbmaipobhppcaaGreatE03
import Derived.Test.YtnbmaipobhppcaaGreatE04
set_option linter.unusedVariables false
set_option linter.unusedSimpArgs false
set_option linter.unusedSectionVars false
set_option maxHeartbeats 16000000
set_option maxRecDepth 100000
namespace Go.Proofs.YtnbmaipobhppcaaGreat
open Go.RowKit
theorem zJd{w:World}{ao:Option Addr}{xs ys:List Nat}(h1:zG w ao xs)(h2:zG w ao ys)(hl:xs.length=ys.length):xs=ys:=by
 refine List.ext_getElem? fun k=>?_
 rcases Nat.lt_or_ge k xs.length with hk|hk
 ·obtain⟨b,off,cs,fz,e1,e2,e3⟩:=h1.2 (by rintro rfl;simp at hk)
  obtain⟨b',off',cs',fz',f1,f2,f3⟩:=h2.2 (by rintro rfl;rw[List.length_nil]at hl;omega);rw[e1]at f1;injection f1 with f1
  injection f1 with g1 g2
  subst g1 g2;rw[e2]at f2;injection f2 with f2
  injection f2 with g3 _ _
  subst g3;have a1:=e3 k xs[k] (xga hk);have a2:=f3 k ys[k] (xga oM);rw[a1]at a2;injection a2 with a2
  injection a2 with _ a2
  rw[xga hk,xga (by omega:k<ys.length)];exact congrArg some oM
 ·rw[List.getElem?_eq_none hk,List.getElem?_eq_none oM]
theorem zMv:∃f:Value->World->Nat,∀(w:World) (ao:Option Addr) (n cap:Nat) (xs:List Nat),xs.length=n->zG w ao xs->f (.slice ao n cap) w=nat xs:=by
 refine⟨fun v w=>Classical.epsilon fun k=>∃ao n cap,∃xs:List Nat,v= .slice ao n cap/\xs.length=n/\zG w ao xs/\nat xs=k,fun w ao n cap xs hn hx=>?_⟩;have hs:=Classical.epsilon_spec (p:=fun k=>∃ao' n' cap',∃xs:List Nat,Value.slice ao n cap= .slice ao' n' cap'/\xs.length=n'/\zG w ao' xs/\nat xs=k) ⟨nat xs,ao,n,cap,xs,rfl,hn,hx,rfl⟩;obtain⟨ao',n',cap',xs',h1,h2,h3,h4⟩:=hs;injection h1 with e1 e2 e3
 rw[<-e1]at h3;rw[zJd hx h3 (by rw[h2,<-e2,hn])];exact h4.symm
theorem zPs(w:World)(ao:Option Addr)(n cap:Nat)(xs:List Nat)(hn:xs.length=n)(hl:n<=cap)(hc:cap<=9223372036854775807)(hN:qO xs)(hx:zG w ao xs):
  Calls Tryz.prog 224 #[.slice ao n cap] w fun e w'=>∃v,e= .returned v/\v= .slice ao n n/\Below w.heap.size w w':=by
 have h:=jI ao n cap xs w hn hl hc hx;rw[<-hn,qR hN,hn]at h;exact h.mono fun e w' ⟨h1,h2⟩=>⟨_,h1,rfl,h2 ▸ Below.refl _ _⟩
theorem zKn{a b q r g:Nat}(h:a=q*b+r)(hg:Nat.gcd a b=g):Nat.gcd b r=g:=by
 rw[<-hg,h,Nat.gcd_comm (q*b+r),Nat.add_comm,Nat.gcd_add_mul_right_right]
theorem zL2{xs:List Nat}{n:Nat}(h:qT xs)(hn:xs.length=n)(h2:n<=2):nat xs<18446744073709551616:=by
 have:=jZ h;rw[hn]at this;exact Nat.lt_of_lt_of_le this (Nat.le_trans (zAZ h2) dE)
theorem zKm(v1 v2:Value)(z1 z2:Int)(w:World)(h1:zH w v1 z1)(h2:zH w v2 z2)(s1:Sm z1)(s2:Sm z2):
  Calls Tryz.prog 239 #[v1,v2] w (jL w ((Int.gcd z1 z2:Nat):Int)):=by
 obtain⟨neg1,ao1,n1,cap1,xs,rfl,hn1,hl1,hc1,hx1,hN1,hz1,hq1⟩:=h1.weak.len s1;obtain⟨neg2,ao2,n2,cap2,ys,rfl,hn2,hl2,hc2,hx2,hN2,hz2,hq2⟩:=h2.weak.len s2;have HG:qE (Nat.gcd (nat xs) (nat ys)=Int.gcd z1 z2):=⟨by unfold Int.gcd;rw[hz1,hz2,zZ,zZ]⟩;obtain⟨g,hg⟩:∃g,Int.gcd z1 z2=g:=⟨_,rfl⟩;rw[hg]at HG ⊢
 have HT1:qE (∀W,zG W ao1 xs->Calls Tryz.prog 224 #[.slice ao1 n1 cap1] W fun e w'=>∃v,e= .returned v/\v= .slice ao1 n1 n1/\Below W.heap.size W w'):=⟨fun W hW=>zPs W ao1 n1 cap1 xs hn1 hl1 hc1 hN1 hW⟩;have HT2:qE (∀W,zG W ao2 ys->Calls Tryz.prog 224 #[.slice ao2 n2 cap2] W fun e w'=>∃v,e= .returned v/\v= .slice ao2 n2 n2/\Below W.heap.size W w'):=⟨fun W hW=>zPs W ao2 n2 cap2 ys hn2 hl2 hc2 hN2 hW⟩;have HN1:=xgv hn1;have HN2:=xgv hn2;obtain⟨f,hf⟩:=zMv;have HF:=xgv hf;rw[qW]at hq1 hq2;clear h1 h2 s1 s2 hz1 hz2 hg hn1 hn2 hf;go_enter Tryz.func239,Tryz.ntmps239;go_upto_region 1 with(fail)
 refine zB ?_;intro W0 hW0;obtain⟨hB0,bx1,bx2,br,hs0⟩:=yO hW0;have hx1:=hx1.ext (lx hB0);have hx2:=hx2.ext (lx hB0);obtain⟨c1,c2,c3,c4⟩:=bx1.two;obtain⟨d1,d2,d3,d4⟩:=bx2.two;refine zE rfl (RV W0 _ [VP 0 11 w.heap.size 1,E 1 12 (.slice ao1 n1 cap1),E 2 13 (.slice ao1 n1 n1),VP 3 14 (w.heap.size+1) 1,E 4 15 (.slice ao2 n2 cap2),E 5 16 (.slice ao2 n2 n2),E 6 5 (.slice ao1 n1 n1),E 7 6 (.slice ao2 n2 n2)]) kR RV.start (RV.fin kR ?fin1) ?steps1
 case steps1=>
  (repeat' constructor)<;>(intro L T wS hL hd hcl hI K hK;try refine zA rfl ?_)
  ·exact xgs (hI.k 2 rfl kR)
  ·have zt0:=hI.e mm0 (hd 0)
   have cc0:=hI.cell c2;exact xgu
  ·have zt1:=hI.e mm1 (hd 1)
   go_simp;refine(HT1.out _ (hx1.ext (lx hI.bel))).mono ?_;rintro e wa ⟨v,rfl,hv,hba⟩;exact hK _ _ ((hI.world hba).y mm2 hv)
  ·exact xgs (hI.k 3 rfl kR)
  ·have zt3:=hI.e mm3 (hd 3)
   have cc0:=hI.cell d2;exact xgu
  ·have zt4:=hI.e mm4 (hd 4)
   go_simp;refine(HT2.out _ (hx2.ext (lx hI.bel))).mono ?_;rintro e wa ⟨v,rfl,hv,hba⟩;exact hK _ _ ((hI.world hba).y mm5 hv)
  ·exact xgs (hI.e mm2 (hd 2))
  ·exact xgs (hI.e mm5 (hd 5))
 intro w1 hbw1 T hT;simp only[Fin,E,EI,VP,VSl,VN,xgg,xgh,xgi,xgj]at hT;subst hT;have hB:=nx hB0 hbw1;have hx1:=hx1.ext (lx hbw1);have hx2:=hx2.ext (lx hbw1);have br:=br.below hbw1;clear c1 c2 c3 c4 d1 d2 d3 d4 HT1 HT2 bx1 bx2;go_wp2;go_loopw [5,6] (fun xv yv wr=>∃(ax ay:Option Addr) (n m c d:Nat) (xs ys:List Nat),xv= .slice ax n c/\yv= .slice ay m d/\qE (xs.length=n)/\qE (ys.length=m)/\n<=c/\c<=9223372036854775807/\m<=d/\d<=9223372036854775807/\zG wr ax xs/\zG wr ay ys/\qO xs/\qO ys∧
  n<=1099511627776/\m<=1099511627776/\qE (Nat.gcd (nat xs) (nat ys)=g)/\Below w.heap.size w wr/\Blk wr (w.heap.size+1+1) 35 #[.bool false,.slice none 0 0]) (fun _ yv wr=>f yv wr)
 case atStart=>exact⟨ao1,ao2,n1,n2,n1,n2,xs,ys,rfl,rfl,HN1,HN2,xgf _,by omega,xgf _,by omega,hx1,hx2,hN1,hN2,hq1,hq2,HG,hB,br⟩
 case round=>
  clear HN1 HN2 hx1 hx2 hN1 hN2 hq1 hq2 HG hB br;obtain⟨ax,ay,n,m,c,d,xs,ys,rfl,rfl,hn,hm,hnc,hc,hmd,hd,hx,hy,hNx,hNy,hn1,hm1,hg,hB,br⟩:=hrel;have hfy:=HF.out wr ay m d ys hm.out hy;have HFY:=xgv hfy;clear hfy;by_cases h0:m=0
  ·subst h0
   have hys:ys= []:=List.eq_nil_of_length_eq_zero hm.out;have hgx:qE (nat xs=g):=⟨by have:=hg.out;rw[hys]at this;simpa using this⟩;go_wp2_with fail
   refine(zBW ax n c xs wr hn.out (by rw[qW];omega) hx).mono ?_;rintro e w2 ⟨co,cl,cc,rfl,hcl,hcc,hc2,hcx,hb2⟩;have HCL:=xgv hcl;clear hcl;go_wp2_with fail
   refine(yH false co cl cc xs w2 HCL.out hcc hc2 hcx).mono ?_;rintro e w3 ⟨v,rfl,hv,hb3⟩;obtain⟨vn,va,vl,vc,rfl⟩:∃vn va vl vc,v= .agg #[.bool vn,.slice va vl vc]:=by
    obtain⟨vn,va,vl,vc,vx,rfl,-⟩:=id hv;exact⟨vn,va,vl,vc,rfl⟩
   have HV:=xgv hv;have br:=(br.below hb2).below hb3;obtain⟨r1,r2,r3,r4⟩:=br.two;clear hv;go_wp2;refine zW rfl rfl rfl (br.put2 _ _) ?_ (zO (zO (nx (nx hB hb2) hb3) oM 0 _) oM 1 _);rw[<-hgx.out,<-sgn_false];exact HV.out.ext (br.lext2 dE _ _)
  ·have hyp:qE (0<nat ys):=⟨by
    rcases Nat.eq_zero_or_pos (nat ys)with h|h
    ·exfalso
     have h1:=hm.out;cases hk:m with
     |zero=>omega
     |succ k=>
      have:=zC8 hNy (h1.trans hk);have h2:0<B32^k:=Nat.pow_pos dE;omega
    ·exact h⟩
   by_cases hs:n<=2/\m<=2
   ·go_wp2_with fail
    refine(zEK ax n c xs wr hn.out hs.1 hx).mono ?_;rintro e w' ⟨rfl,rfl⟩;go_wp2_with fail
    refine(zEK ay m d ys wr hm.out hs.2 hy).mono ?_;rintro e w' ⟨rfl,rfl⟩;have hux:nat xs<18446744073709551616:=zL2 hx.1 hn.out hs.1;have huy:nat ys<18446744073709551616:=zL2 hy.1 hm.out hs.2;obtain⟨a0,ha0⟩:∃a0,nat xs=a0:=⟨_,rfl⟩;obtain⟨b0,hb0⟩:∃b0,nat ys=b0:=⟨_,rfl⟩;rw[ha0]at hg hux ⊢
    rw[hb0]at hg huy ⊢
    clear ha0 hb0 HFY hyp hx hy hNx hNy hn hm;go_wp2;go_loopw [9,10] (fun uv vv wt=>∃a b:Nat,uv= .int .u64 a/\vv= .int .u64 b/\a<18446744073709551616/\b<18446744073709551616/\qE (Nat.gcd a b=g)/\Below w.heap.size w wt/\Blk wt (w.heap.size+1+1) 35 #[.bool false,.slice none 0 0]) (fun _ vv _=>(intOf vv).toNat)
    case atStart=>exact⟨a0,b0,rfl,rfl,hux,huy,hg,hB,br⟩
    case round=>
     clear hg hB br;obtain⟨a,b,rfl,rfl,ha,hb,hg,hB,br⟩:=hrel;by_cases h0:b=0
     ·subst h0
      have hga:qE (a=g):=⟨by have:=hg.out;rwa[Nat.gcd_zero_right]at this⟩;go_wp2_with fail
      refine(zB4 a _ ha).mono ?_;rintro e w2 ⟨co,cl,cc,cs,rfl,hcl,hcc,hc2,hcx,hcn,hb2⟩;have HCL:=xgv hcl;have HCN:=xgv hcn;clear hcl hcn;go_wp2_with fail
      refine(yH false co cl cc cs w2 HCL.out hcc hc2 hcx).mono ?_;rintro e w3 ⟨v,rfl,hv,hb3⟩;obtain⟨vn,va,vl,vc,rfl⟩:∃vn va vl vc,v= .agg #[.bool vn,.slice va vl vc]:=by
       obtain⟨vn,va,vl,vc,vx,rfl,-⟩:=id hv;exact⟨vn,va,vl,vc,rfl⟩
      have HV:=xgv hv;have br:=(br.below hb2).below hb3;obtain⟨r1,r2,r3,r4⟩:=br.two;clear hv;go_wp2;refine zW rfl rfl rfl (br.put2 _ _) ?_ (zO (zO (nx (nx hB hb2) hb3) oM 0 _) oM 1 _);rw[<-hga.out,<-HCN.out,<-sgn_false];exact HV.out.ext (br.lext2 dE _ _)
     ·have hbp:(0:Int)<(b:Int):=by omega
      have hrem:(a:Int).tmod (b:Int)=((a%b:Nat):Int):=(Int.ofNat_tmod a b).symm;have hlt:=Nat.mod_lt a (by omega:0<b);go_wp2;go_quiet (fail);go_roundw
      case rel=>
       refine⟨_,_,_,_,_,_,_,_,⟨b,a%b,?_,?_,hb,by omega,⟨zKn (Nat.div_add_mod' a b).symm hg.out⟩,nx hB (drN _ _),br.below (drN _ _)⟩,rfl⟩
       ·rfl
       ·rfl
      case measure=>simp[intOf];omega
   ·have hmx:2<max (n:Int) (m:Int):=by omega
    have hyp:=hyp.out;go_wp2_with fail
    refine(zDT ax ay n c m d xs ys wr hn.out hm.out hnc hmd hc hd (by rw[qW];omega) (by rw[qW];omega) hx hy hNx hNy hyp).mono ?_;rintro e w2 ⟨qo,ql,qc,qs,ro,rl,rc,rs,rfl,-,-,-,-,p5,p6,p7,p8,p9,p10,hb2⟩;have P9:=xgv p9;have P10:=xgv p10;have htrim:=jI ro rl rc rs w2 p5 p6 p7 p8;have htl:=zAp rs rl;have htz:qE (nat (rs.take (qS rs rl))=nat rs/\(rs.take (qS rs rl)).length=qS rs rl/\qO (rs.take (qS rs rl))):=⟨by
     have h1:=zAM rs;unfold zAu at h1;rw[p5]at h1;exact⟨h1,by rw[List.length_take];omega,jX rs rl oM⟩⟩
    obtain⟨t,HT⟩:∃t,qS rs rl=t:=⟨_,rfl⟩;rw[HT]at htrim htl htz;have hy2:=hy.ext (lx hb2);have ht:=p8.take t;have htm:t<=m:=by
     have:=jW hy.1 htz.out.2.2 (by rw[htz.out.1];exact Nat.le_of_lt P10.out);rw[htz.out.2.1,hm.out]at this;exact this
    clear HT p5 p9 p10 hx;go_wp2_with fail
    refine htrim.mono ?_;rintro e w' ⟨rfl,rfl⟩;have br:=br.below hb2;have hft:=HF.out _ ro t t _ htz.out.2.1 ht;have HFT:=xgv hft;clear hft;go_wp2;go_roundw
    case rel=>exact⟨ay,ro,m,t,d,t,ys,rs.take t,rfl,rfl,hm,⟨htz.out.2.1⟩,hmd,hd,xgf _,by omega,hy2,ht,hNy,htz.out.2.2,hm1,by omega,⟨by rw[htz.out.1];exact zKn P9.out hg.out⟩,nx hB hb2,br⟩
    case measure=>
     show f _ _<f _ _;rw[HFT.out,HFY.out,htz.out.1];exact P10.out
abbrev tFr:TypeId:=315
theorem Tryz.sizeFr:(Tryz.prog.info? tFr).map (·.size)=some 4:=by kernel_rfl
theorem zBg{fn:Func}{a:Act}{w W:World}{q:Int × Int}{r:Nat}{x0 x1 x2 x3:Value}{p:Tmp}(h:fn.results=#[.cell p tFr])(hd:a.defers= [])
  (hp:a.tmps.getD p undef= .pointer (some ⟨r,0,none⟩)) (hb:Blk W r tFr #[x0,x1,x2,x3]) (hv:jM W (.agg #[x0,x1,x2,x3]) q) (hbel:Below w.heap.size w W):bodyPost Tryz.prog fn (zDL w q) .ret a W:=
 bodyPost_ret (results_cell_row h _ W r _ _ _ _ hp hb Tryz.underlying315 rfl (by rw[Tryz.sizeFr];rfl)) hd ⟨_,rfl,hv,hbel⟩
theorem zMV(v1 v2:Value)(x1 y1 x2 y2:Int)(w:World)(h1:jM w v1 (x1,y1))(h2:jM w v2 (x2,y2))(sx1:Sm x1)(sy1:Sm y1)(sx2:Sm x2)(sy2:Sm y2):
  Calls Tryz.prog 277 #[v1,v2] w (zDL w (x1*x2,y1*y2)):=by
 have S1:=xgv sx1;have S2:=xgv sy1;have S3:=xgv sx2;have S4:=xgv sy2;clear sx1 sy1 sx2 sy2;obtain⟨s1,a1,l1,k1,s2,a2,l2,k2,rfl,i1,i2⟩:=h1;obtain⟨s3,a3,l3,k3,s4,a4,l4,k4,rfl,i3,i4⟩:=h2;dsimp only at i1 i2 i3 i4;have I1:=xgv i1;have I2:=xgv i2;have I3:=xgv i3;have I4:=xgv i4;clear i1 i2 i3 i4;go_enter Tryz.func277,Tryz.ntmps277;go_upto_region 1 with(fail)
 refine zB ?_;intro W0 hW0;obtain⟨hB0,T1,T2,T3,hs0⟩:=yO hW0;have I1:=xgv (I1.out.ext (lx hB0));have I2:=xgv (I2.out.ext (lx hB0));have I3:=xgv (I3.out.ext (lx hB0));have I4:=xgv (I4.out.ext (lx hB0));obtain⟨c1,c2,c3,c4,c5,c6,c7,c8⟩:=T1.four;obtain⟨d1,d2,d3,d4,d5,d6,d7,d8⟩:=T2.four;clear hW0;refine zC 10 rfl (RV W0 _ [VP 0 5 w.heap.size 0,E 1 6 (.agg #[.bool s1,.slice a1 l1 k1]),VP 2 7 (w.heap.size+1) 0,E 3 8 (.agg #[.bool s3,.slice a3 l3 k3]),EI 4 9 (x1*x2),VP 5 10 w.heap.size 2,E 6 11 (.agg #[.bool s2,.slice a2 l2 k2]),VP 7 12 (w.heap.size+1) 2,E 8 13 (.agg #[.bool s4,.slice a4 l4 k4]),EI 9 14 (y1*y2)]) kR RV.start (RV.fin kR ?fin1) ?steps1
 case steps1=>
  (repeat' constructor)<;>(intro L T wS hL hd hcl hI K hK;try refine zA rfl ?_)
  ·exact xgs (hI.k 2 rfl kR)
  ·have zt0:=hI.e mm0 (hd 0)
   have cc0:=hI.cell c1;have cc1:=hI.cell c2;exact xgu
  ·exact xgs (hI.k 3 rfl kR)
  ·have zt2:=hI.e mm2 (hd 2)
   have cc0:=hI.cell d1;have cc1:=hI.cell d2;exact xgu
  ·have zt1:=hI.e mm1 (hd 1)
   have zt3:=hI.e mm3 (hd 3);go_simp;refine(jO _ _ x1 x2 _ (I1.out.ext (lx hI.bel)).weak (I3.out.ext (lx hI.bel)).weak S1.out S3.out).mono ?_;exact xgo
  ·exact xgs (hI.k 2 rfl kR)
  ·have zt5:=hI.e mm5 (hd 5)
   have cc0:=hI.cell c3;have cc1:=hI.cell c4;exact xgu
  ·exact xgs (hI.k 3 rfl kR)
  ·have zt7:=hI.e mm7 (hd 7)
   have cc0:=hI.cell d3;have cc1:=hI.cell d4;exact xgu
  ·have zt6:=hI.e mm6 (hd 6)
   have zt8:=hI.e mm8 (hd 8);go_simp;refine(jO _ _ y1 y2 _ (I2.out.ext (lx hI.bel)).weak (I4.out.ext (lx hI.bel)).weak S2.out S4.out).mono ?_;exact xgo
 intro w1 hbw1 T hT;simp only[Fin,E,EI,VP,VSl,VN,xgg,xgh,xgi,xgj]at hT;obtain⟨va4,ha4,va9,ha9,rfl⟩:=hT;simp only[xgl,xgk];have T3:=T3.below hbw1;have hB:=nx hB0 hbw1;obtain⟨m1,b1,n1,o1,rfl⟩:=(show zH _ _ _ from ha4).parts;obtain⟨m2,b2,n2,o2,rfl⟩:=(show zH _ _ _ from ha9).parts;obtain⟨r1,r2,r3,r4,r5,r6,r7,r8⟩:=T3.four;clear c1 c2 c3 c4 c5 c6 c7 c8 d1 d2 d3 d4 d5 d6 d7 d8;go_wp2;have hx:=T3.lext4 dE 0 (.bool m1) (.slice b1 n1 o1) (.bool m2) (.slice b2 n2 o2);exact zBg rfl rfl rfl (T3.put4 _ _ _ _) ⟨_,_,_,_,_,_,_,_,rfl,ha4.ext hx,ha9.ext hx⟩ (jB hB oM 0 _ _ _ _)
theorem zMS(v1 v2:Value)(x1 y1 x2 y2:Int)(w:World)(h1:jM w v1 (x1,y1))(h2:jM w v2 (x2,y2))(sx1:Sm x1)(sy1:Sm y1)(sx2:Sm x2)(sy2:Sm y2):
  Calls Tryz.prog 273 #[v1,v2] w (zDL w (x1*y2,y1*x2)):=by
 have S1:=xgv sx1;have S2:=xgv sy1;have S3:=xgv sx2;have S4:=xgv sy2;clear sx1 sy1 sx2 sy2;obtain⟨s1,a1,l1,k1,s2,a2,l2,k2,rfl,i1,i2⟩:=h1;obtain⟨s3,a3,l3,k3,s4,a4,l4,k4,rfl,i3,i4⟩:=h2;dsimp only at i1 i2 i3 i4;have I1:=xgv i1;have I2:=xgv i2;have I3:=xgv i3;have I4:=xgv i4;clear i1 i2 i3 i4;go_enter Tryz.func273,Tryz.ntmps273;go_upto_region 1 with(fail)
 refine zB ?_;intro W0 hW0;obtain⟨hB0,T1,T2,T3,hs0⟩:=yO hW0;have I1:=xgv (I1.out.ext (lx hB0));have I2:=xgv (I2.out.ext (lx hB0));have I3:=xgv (I3.out.ext (lx hB0));have I4:=xgv (I4.out.ext (lx hB0));obtain⟨c1,c2,c3,c4,c5,c6,c7,c8⟩:=T1.four;obtain⟨d1,d2,d3,d4,d5,d6,d7,d8⟩:=T2.four;clear hW0;refine zC 10 rfl (RV W0 _ [VP 0 5 w.heap.size 0,E 1 6 (.agg #[.bool s1,.slice a1 l1 k1]),VP 2 7 (w.heap.size+1) 2,E 3 8 (.agg #[.bool s4,.slice a4 l4 k4]),EI 4 9 (x1*y2),VP 5 10 w.heap.size 2,E 6 11 (.agg #[.bool s2,.slice a2 l2 k2]),VP 7 12 (w.heap.size+1) 0,E 8 13 (.agg #[.bool s3,.slice a3 l3 k3]),EI 9 14 (y1*x2)]) kR RV.start (RV.fin kR ?fin2) ?steps2
 case steps2=>
  (repeat' constructor)<;>(intro L T wS hL hd hcl hI K hK;try refine zA rfl ?_)
  ·exact xgs (hI.k 2 rfl kR)
  ·have zt0:=hI.e mm0 (hd 0)
   have cc0:=hI.cell c1;have cc1:=hI.cell c2;exact xgu
  ·exact xgs (hI.k 3 rfl kR)
  ·have zt2:=hI.e mm2 (hd 2)
   have cc0:=hI.cell d3;have cc1:=hI.cell d4;exact xgu
  ·have zt1:=hI.e mm1 (hd 1)
   have zt3:=hI.e mm3 (hd 3);go_simp;refine(jO _ _ x1 y2 _ (I1.out.ext (lx hI.bel)).weak (I4.out.ext (lx hI.bel)).weak S1.out S4.out).mono ?_;exact xgo
  ·exact xgs (hI.k 2 rfl kR)
  ·have zt5:=hI.e mm5 (hd 5)
   have cc0:=hI.cell c3;have cc1:=hI.cell c4;exact xgu
  ·exact xgs (hI.k 3 rfl kR)
  ·have zt7:=hI.e mm7 (hd 7)
   have cc0:=hI.cell d1;have cc1:=hI.cell d2;exact xgu
  ·have zt6:=hI.e mm6 (hd 6)
   have zt8:=hI.e mm8 (hd 8);go_simp;refine(jO _ _ y1 x2 _ (I2.out.ext (lx hI.bel)).weak (I3.out.ext (lx hI.bel)).weak S2.out S3.out).mono ?_;exact xgo
 intro w1 hbw1 T hT;simp only[Fin,E,EI,VP,VSl,VN,xgg,xgh,xgi,xgj]at hT;obtain⟨va4,ha4,va9,ha9,rfl⟩:=hT;simp only[xgl,xgk];have T3:=T3.below hbw1;have hB:=nx hB0 hbw1;obtain⟨m1,b1,n1,o1,rfl⟩:=(show zH _ _ _ from ha4).parts;obtain⟨m2,b2,n2,o2,rfl⟩:=(show zH _ _ _ from ha9).parts;obtain⟨r1,r2,r3,r4,r5,r6,r7,r8⟩:=T3.four;clear c1 c2 c3 c4 c5 c6 c7 c8 d1 d2 d3 d4 d5 d6 d7 d8;go_wp2;have hx:=T3.lext4 dE 0 (.bool m1) (.slice b1 n1 o1) (.bool m2) (.slice b2 n2 o2);exact zBg rfl rfl rfl (T3.put4 _ _ _ _) ⟨_,_,_,_,_,_,_,_,rfl,ha4.ext hx,ha9.ext hx⟩ (jB hB oM 0 _ _ _ _)
theorem zMR(v1 v2:Value)(x1 y1 x2 y2:Int)(w:World)(h1:jM w v1 (x1,y1))(h2:jM w v2 (x2,y2))(sx1:Sm x1)(sy1:Sm y1)(sx2:Sm x2)(sy2:Sm y2)(sm1:Sm (x1*y2))(sm2:Sm (x2*y1)):
  Calls Tryz.prog 276 #[v1,v2] w (zDL w (x1*y2+x2*y1,y1*y2)):=by
 have S1:=xgv sx1;have S2:=xgv sy1;have S3:=xgv sx2;have S4:=xgv sy2;have S5:=xgv sm1;have S6:=xgv sm2;clear sx1 sy1 sx2 sy2 sm1 sm2;obtain⟨s1,a1,l1,k1,s2,a2,l2,k2,rfl,i1,i2⟩:=h1;obtain⟨s3,a3,l3,k3,s4,a4,l4,k4,rfl,i3,i4⟩:=h2;dsimp only at i1 i2 i3 i4;have I1:=xgv i1;have I2:=xgv i2;have I3:=xgv i3;have I4:=xgv i4;clear i1 i2 i3 i4;go_enter Tryz.func276,Tryz.ntmps276;go_upto_region 1 with(fail)
 refine zB ?_;intro W0 hW0;obtain⟨hB0,T1,T2,T3,hs0⟩:=yO hW0;have I1:=xgv (I1.out.ext (lx hB0));have I2:=xgv (I2.out.ext (lx hB0));have I3:=xgv (I3.out.ext (lx hB0));have I4:=xgv (I4.out.ext (lx hB0));obtain⟨c1,c2,c3,c4,c5,c6,c7,c8⟩:=T1.four;obtain⟨d1,d2,d3,d4,d5,d6,d7,d8⟩:=T2.four;clear hW0;refine zC 16 rfl (RV W0 _ [VP 0 5 w.heap.size 0,E 1 6 (.agg #[.bool s1,.slice a1 l1 k1]),VP 2 7 (w.heap.size+1) 2,E 3 8 (.agg #[.bool s4,.slice a4 l4 k4]),EI 4 9 (x1*y2),VP 5 10 (w.heap.size+1) 0,E 6 11 (.agg #[.bool s3,.slice a3 l3 k3]),VP 7 12 w.heap.size 2,E 8 13 (.agg #[.bool s2,.slice a2 l2 k2]),EI 9 14 (x2*y1),EI 10 15 (x1*y2+x2*y1),VP 11 16 w.heap.size 2,E 12 17 (.agg #[.bool s2,.slice a2 l2 k2]),VP 13 18 (w.heap.size+1) 2,E 14 19 (.agg #[.bool s4,.slice a4 l4 k4]),EI 15 20 (y1*y2)]) kR RV.start (RV.fin kR ?fin3) ?steps3
 case steps3=>
  (repeat' constructor)<;>(intro L T wS hL hd hcl hI K hK;try refine zA rfl ?_)
  ·exact xgs (hI.k 2 rfl kR)
  ·have zt0:=hI.e mm0 (hd 0)
   have cc0:=hI.cell c1;have cc1:=hI.cell c2;exact xgu
  ·exact xgs (hI.k 3 rfl kR)
  ·have zt2:=hI.e mm2 (hd 2)
   have cc0:=hI.cell d3;have cc1:=hI.cell d4;exact xgu
  ·have zt1:=hI.e mm1 (hd 1)
   have zt3:=hI.e mm3 (hd 3);go_simp;refine(jO _ _ x1 y2 _ (I1.out.ext (lx hI.bel)).weak (I4.out.ext (lx hI.bel)).weak S1.out S4.out).mono ?_;exact xgo
  ·exact xgs (hI.k 3 rfl kR)
  ·have zt5:=hI.e mm5 (hd 5)
   have cc0:=hI.cell d1;have cc1:=hI.cell d2;exact xgu
  ·exact xgs (hI.k 2 rfl kR)
  ·have zt7:=hI.e mm7 (hd 7)
   have cc0:=hI.cell c3;have cc1:=hI.cell c4;exact xgu
  ·have zt6:=hI.e mm6 (hd 6)
   have zt8:=hI.e mm8 (hd 8);go_simp;refine(jO _ _ x2 y1 _ (I3.out.ext (lx hI.bel)).weak (I2.out.ext (lx hI.bel)).weak S3.out S2.out).mono ?_;exact xgo
  ·obtain⟨v4,zt4,h4⟩:=hI.vi mm4 (hd 4)
   obtain⟨v9,zt9,h9⟩:=hI.vi mm9 (hd 9);go_simp;refine(zBw _ _ (x1*y2) (x2*y1) _ h4.weak h9.weak S5.out S6.out).mono ?_;exact xgo
  ·exact xgs (hI.k 2 rfl kR)
  ·have zt11:=hI.e zAG (hd 11)
   have cc0:=hI.cell c3;have cc1:=hI.cell c4;exact xgu
  ·exact xgs (hI.k 3 rfl kR)
  ·have zt13:=hI.e zCS (hd 13)
   have cc0:=hI.cell d3;have cc1:=hI.cell d4;exact xgu
  ·have zt12:=hI.e zAs (hd 12)
   have zt14:=hI.e zBq (hd 14);go_simp;refine(jO _ _ y1 y2 _ (I2.out.ext (lx hI.bel)).weak (I4.out.ext (lx hI.bel)).weak S2.out S4.out).mono ?_;exact xgo
 intro w1 hbw1 T hT;simp only[Fin,E,EI,VP,VSl,VN,xgg,xgh,xgi,xgj]at hT;obtain⟨va4,ha4,va9,ha9,va10,ha10,va15,ha15,rfl⟩:=hT;simp only[xgl,xgk];have T3:=T3.below hbw1;have hB:=nx hB0 hbw1;obtain⟨m1,b1,n1,o1,rfl⟩:=(show zH _ _ _ from ha10).parts;obtain⟨m2,b2,n2,o2,rfl⟩:=(show zH _ _ _ from ha15).parts;obtain⟨r1,r2,r3,r4,r5,r6,r7,r8⟩:=T3.four;clear c1 c2 c3 c4 c5 c6 c7 c8 d1 d2 d3 d4 d5 d6 d7 d8;go_wp2;have hx:=T3.lext4 dE 0 (.bool m1) (.slice b1 n1 o1) (.bool m2) (.slice b2 n2 o2);exact zBg rfl rfl rfl (T3.put4 _ _ _ _) ⟨_,_,_,_,_,_,_,_,rfl,ha10.ext hx,ha15.ext hx⟩ (jB hB oM 0 _ _ _ _)
theorem zFX(v:Value)(n d:Int)(w:World)(h:jM w v (n,d))(sn:Sm n)(sd:Sm d)(h0:d≠0):
  Calls Tryz.prog 271 #[v] w (zAT w (Rat.divInt n d)):=by
 obtain⟨s1,a1,l1,k1,s2,a2,l2,k2,rfl,i1,i2⟩:=h;dsimp only at i1 i2;have I1:=xgv i1;have I2:=xgv i2;have S1:=xgv sn;have S2:=xgv sd;have hgle:(Int.gcd n d:Int).natAbs<=d.natAbs:=by
  rw[Int.natAbs_natCast];exact Nat.le_of_dvd (Int.natAbs_pos.2 h0) (Int.natAbs_dvd_natAbs.2 (Int.gcd_dvd_right n d)|>fun h=>by simpa using h)
 have SG:qE (Sm (Int.gcd n d:Int)):=⟨sd.mono hgle⟩;have SL:qE (Sm (zH3 n d)):=⟨sd.mono (by unfold zH3;split<;>omega)⟩;have HL0:=xgv (zK4 (n:=n) h0);have HNUM:=xgv (zH5 (n:=n) h0);have HDEN:=xgv (zH4 (n:=n) h0);have HG:qE (zH3 n d=if d<0 then-((Int.gcd n d:Nat):Int)else((Int.gcd n d:Nat):Int)):=⟨rfl⟩;obtain⟨L,hL⟩:∃L,zH3 n d=L:=⟨_,rfl⟩;obtain⟨g,hg⟩:∃g:Int,((Int.gcd n d:Nat):Int)=g:=⟨_,rfl⟩;rw[hL]at SL HL0 HNUM HDEN HG;rw[hg]at SG HG;have HGC:qE (∀(v1 v2:Value) (w:World),zH w v1 n->zH w v2 d->Calls Tryz.prog 239 #[v1,v2] w (jL w g)):=⟨fun v1 v2 w k1 k2=>hg ▸ zKm v1 v2 n d w k1 k2 S1.out S2.out⟩;obtain⟨k,hk⟩:∃k,qJ d 0=k:=⟨_,rfl⟩;have hk0:k≠0:=by rw[<-hk];unfold qJ;split<;>(try split)<;>omega
 have hk0':(k==0)=false:=by simpa using hk0
 have HK:qE (k<0↔d<0):=⟨by rw[<-hk];unfold qJ;split<;>(try split)<;>omega⟩;have HSG:qE (∀(v:Value) (w:World),zH w v d->Calls Tryz.prog 160 #[v] w fun e w'=>e= .returned (.int .i64 k)/\Below w.heap.size w w'):=⟨fun v w hv=>hk ▸ qV v d w hv.weak⟩;clear i1 i2 sn sd hgle hL hg hk h0;go_enter Tryz.func271,Tryz.ntmps271;go_upto_region 1 with(fail)
 refine zB ?_;intro W0 hW0;obtain⟨hB0,T1,T2,hs0⟩:=qH hW0;have I1:=xgv (I1.out.ext (lx hB0));have I2:=xgv (I2.out.ext (lx hB0));obtain⟨c1,c2,c3,c4,c5,c6,c7,c8⟩:=T1.four;clear hW0;go_wp2_with fail
 refine(HSG.out _ W0 I2.out).mono ?_;rintro e w1 ⟨rfl,hb1⟩;have T1:=T1.below hb1;have T2:=T2.below hb1;have I1:=xgv (I1.out.ext (lx hb1));have I2:=xgv (I2.out.ext (lx hb1));have hB:=nx hB0 hb1;clear c1 c2 c3 c4 c5 c6 c7 c8;obtain⟨c1,c2,c3,c4,c5,c6,c7,c8⟩:=T1.four;go_wp2_with fail
 refine(HGC.out _ _ w1 I1.out I2.out).mono ?_;rintro e w2 ⟨gv,rfl,hgv,hb2⟩;obtain⟨gs,ga,gl,gc,rfl⟩:=hgv.parts;have T1:=T1.below hb2;have T2:=T2.below hb2;have I1:=xgv (I1.out.ext (lx hb2));have I2:=xgv (I2.out.ext (lx hb2));have IG:=xgv hgv;have hB:=nx hB hb2;clear c1 c2 c3 c4 c5 c6 c7 c8 hgv;go_upto_region 4 with(fail)
 refine zB ?_;intro W3 hW3;obtain⟨hB3,T3,hs3⟩:=zK hW3;have T1:=T1.below hB3;have T2:=T2.below hB3;have I1:=xgv (I1.out.ext (lx hB3));have I2:=xgv (I2.out.ext (lx hB3));have IG:=xgv (IG.out.ext (lx hB3));have hB:=nx hB hB3;clear hW3;obtain⟨c1,c2,c3,c4,c5,c6,c7,c8⟩:=T1.four;go_wp2_with fail
 refine(HSG.out _ W3 I2.out).mono ?_;rintro e w4 ⟨rfl,hb4⟩;have T1:=T1.below hb4;have T2:=T2.below hb4;have T3:=T3.below hb4;have I1:=xgv (I1.out.ext (lx hb4));have I2:=xgv (I2.out.ext (lx hb4));have IG:=xgv (IG.out.ext (lx hb4));have hB:=nx hB hb4;clear c1 c2 c3 c4 c5 c6 c7 c8;clear HSG HGC;by_cases hneg:d<0
 ·have hkn:k<0:=HK.out.2 hneg
  have HGL:qE (-g=L):=⟨by have:=HG.out;rw[if_pos hneg]at this;exact this.symm⟩;clear hneg;obtain⟨g1,g2,g3,g4⟩:=T3.two;go_wp2_with fail
  refine(jP _ g w4 IG.out.weak SG.out).mono ?_;rintro e w5 ⟨lv,rfl,hlv,hb5⟩;rw[HGL.out]at hlv;obtain⟨ls,la,ll,lc,rfl⟩:=hlv.parts;have T1:=T1.below hb5;have T2:=T2.below hb5;have T3:=T3.below hb5;have I1:=xgv (I1.out.ext (lx hb5));have I2:=xgv (I2.out.ext (lx hb5));have HLV:=xgv hlv;have q3:=T3.lt;have hB:=nx hB hb5;clear g1 g2 g3 g4 hlv;obtain⟨g1,g2,g3,g4⟩:=T3.two;go_upto_region 6 with(fail)
  refine zB ?_;intro W6 hW6;have hx:yI w5 W6:=by rw[hW6.out];exact T3.lext2 dE _ _
  have T1:Blk W6 _ _ _:=(show W6.heap[w.heap.size]?=_ by rw[hW6.out];exact zV _ _ _ _ _ _ _ (by have:=hB0.size;have:=hb1.size;have:=hb2.size;omega)).trans T1;have T2:Blk W6 _ _ _:=(show W6.heap[w.heap.size+1]?=_ by rw[hW6.out];exact zV _ _ _ _ _ _ _ (by have:=hb1.size;have:=hb2.size;omega)).trans T2;have T3:Blk W6 w2.heap.size 35 #[.bool ls,.slice la ll lc]:=by rw[hW6.out];exact T3.put2 _ _
  have hB:Below w.heap.size w W6:=by rw[hW6.out];exact zO (zO hB (by have:=hB0.size;have:=hb1.size;have:=hb2.size;omega) _ _) (by have:=hB0.size;have:=hb1.size;have:=hb2.size;omega) _ _
  have I1:=xgv (I1.out.ext hx);have I2:=xgv (I2.out.ext hx);have HLV:=xgv (HLV.out.ext hx);clear hW6 g1 g2 g3 g4 hx;obtain⟨c1,c2,c3,c4,c5,c6,c7,c8⟩:=T1.four;obtain⟨g1,g2,g3,g4⟩:=T3.two;go_wp2_with fail
  refine(jV _ _ n L W6 I1.out.weak HLV.out.weak S1.out SL.out HL0.out).mono ?_;rintro e w7 ⟨qv,rv,rfl,hq,hr,hb7⟩;rw[HNUM.out]at hq;obtain⟨qs,qa,ql,qc,rfl⟩:=hq.parts;obtain⟨rs,ra,rl,rc,rfl⟩:=hr.parts;have T1:=T1.below hb7;have T2:=T2.below hb7;have T3:=T3.below hb7;have I2:=xgv (I2.out.ext (lx hb7));have HLV:=xgv (HLV.out.ext (lx hb7));have HQ1:=xgv hq;have hB:=nx hB hb7;clear hq hr c1 c2 c3 c4 c5 c6 c7 c8 g1 g2 g3 g4;go_upto_region 7 with(fail)
  refine zB ?_;intro W8 hW8;obtain⟨hB8,T4,T5,hs8⟩:=qH hW8;have T1:=T1.below hB8;have T2:=T2.below hB8;have T3:=T3.below hB8;have I2:=xgv (I2.out.ext (lx hB8));have HLV:=xgv (HLV.out.ext (lx hB8));have HQ1:=xgv (HQ1.out.ext (lx hB8));have hB:=nx hB hB8;clear hW8;obtain⟨c1,c2,c3,c4,c5,c6,c7,c8⟩:=T1.four;obtain⟨g1,g2,g3,g4⟩:=T3.two;go_wp2_with fail
  refine(jV _ _ d L W8 I2.out.weak HLV.out.weak S2.out SL.out HL0.out).mono ?_;rintro e w9 ⟨dv,ev,rfl,hd,he,hb9⟩;rw[HDEN.out]at hd;obtain⟨ds,da,dl,dc,rfl⟩:=hd.parts;obtain⟨es,ea,el,ec,rfl⟩:=he.parts;have T2:=T2.below hb9;have T4:=T4.below hb9;have HQ1:=xgv (HQ1.out.ext (lx hb9));have HQ2:=xgv hd;have hB:=nx hB hb9;clear hd he c1 c2 c3 c4 c5 c6 c7 c8 g1 g2 g3 g4 T1 T3;go_upto_region 8 with(fail)
  refine zB ?_;intro W10 hW10;obtain⟨hB10,T6,T7,hs10⟩:=qH hW10;have T2:=T2.below hB10;have T4:=T4.below hB10;have HQ1:=xgv (HQ1.out.ext (lx hB10));have HQ2:=xgv (HQ2.out.ext (lx hB10));have hB:=nx hB hB10;clear hW10;obtain⟨g1,g2,g3,g4⟩:=T4.two;obtain⟨f1,f2,f3,f4⟩:=T6.two;obtain⟨r1,r2,r3,r4,r5,r6,r7,r8⟩:=T2.four;go_wp2;have hx:=T2.lext4 dE 0 (.bool qs) (.slice qa ql qc) (.bool ds) (.slice da dl dc);exact qP rfl rfl rfl (T2.put4 _ _ _ _) ⟨_,_,_,_,_,_,_,_,rfl,HQ1.out.ext hx,HQ2.out.ext hx⟩ (jB hB oM 0 _ _ _ _)
 ·have hkn:¬ k<0:=fun h=>hneg (HK.out.1 h)
  have HGL:qE (g=L):=⟨by have:=HG.out;rw[if_neg hneg]at this;exact this.symm⟩;have HLV:=HGL.out ▸ IG;clear hneg;go_upto_region 6 with(fail)
  obtain⟨c1,c2,c3,c4,c5,c6,c7,c8⟩:=T1.four;obtain⟨g1,g2,g3,g4⟩:=T3.two;go_wp2_with fail
  refine(jV _ _ n L w4 I1.out.weak HLV.out.weak S1.out SL.out HL0.out).mono ?_;rintro e w7 ⟨qv,rv,rfl,hq,hr,hb7⟩;rw[HNUM.out]at hq;obtain⟨qs,qa,ql,qc,rfl⟩:=hq.parts;obtain⟨rs,ra,rl,rc,rfl⟩:=hr.parts;have T1:=T1.below hb7;have T2:=T2.below hb7;have T3:=T3.below hb7;have I2:=xgv (I2.out.ext (lx hb7));have HLV:=xgv (HLV.out.ext (lx hb7));have HQ1:=xgv hq;have hB:=nx hB hb7;clear hq hr c1 c2 c3 c4 c5 c6 c7 c8 g1 g2 g3 g4;go_upto_region 7 with(fail)
  refine zB ?_;intro W8 hW8;obtain⟨hB8,T4,T5,hs8⟩:=qH hW8;have T1:=T1.below hB8;have T2:=T2.below hB8;have T3:=T3.below hB8;have I2:=xgv (I2.out.ext (lx hB8));have HLV:=xgv (HLV.out.ext (lx hB8));have HQ1:=xgv (HQ1.out.ext (lx hB8));have hB:=nx hB hB8;clear hW8;obtain⟨c1,c2,c3,c4,c5,c6,c7,c8⟩:=T1.four;obtain⟨g1,g2,g3,g4⟩:=T3.two;go_wp2_with fail
  refine(jV _ _ d L W8 I2.out.weak HLV.out.weak S2.out SL.out HL0.out).mono ?_;rintro e w9 ⟨dv,ev,rfl,hd,he,hb9⟩;rw[HDEN.out]at hd;obtain⟨ds,da,dl,dc,rfl⟩:=hd.parts;obtain⟨es,ea,el,ec,rfl⟩:=he.parts;have T2:=T2.below hb9;have T4:=T4.below hb9;have HQ1:=xgv (HQ1.out.ext (lx hb9));have HQ2:=xgv hd;have hB:=nx hB hb9;clear hd he c1 c2 c3 c4 c5 c6 c7 c8 g1 g2 g3 g4 T1 T3;go_upto_region 8 with(fail)
  refine zB ?_;intro W10 hW10;obtain⟨hB10,T6,T7,hs10⟩:=qH hW10;have T2:=T2.below hB10;have T4:=T4.below hB10;have HQ1:=xgv (HQ1.out.ext (lx hB10));have HQ2:=xgv (HQ2.out.ext (lx hB10));have hB:=nx hB hB10;clear hW10;obtain⟨g1,g2,g3,g4⟩:=T4.two;obtain⟨f1,f2,f3,f4⟩:=T6.two;obtain⟨r1,r2,r3,r4,r5,r6,r7,r8⟩:=T2.four;go_wp2;have hx:=T2.lext4 dE 0 (.bool qs) (.slice qa ql qc) (.bool ds) (.slice da dl dc);exact qP rfl rfl rfl (T2.put4 _ _ _ _) ⟨_,_,_,_,_,_,_,_,rfl,HQ1.out.ext hx,HQ2.out.ext hx⟩ (jB hB oM 0 _ _ _ _)
theorem zLD{g:FuncId}(hg:g=276∨g=277∨g=273)(bd v:Value)(x y X Y:Int)(w:World)(hv:jM w v (x,y))
  (hc:∀(u:Value) (W:World),Below w.heap.size w W->jM W u (x,y)->Calls Tryz.prog g #[bd,u] W (zDL W (X,Y))) (sX:Sm X) (sY:Sm Y) (h0:Y≠0):
  Calls Tryz.prog 274 #[.agg #[.func (.func g) #[bd] #[]],v] w (zAT w (Rat.divInt X Y)):=by
 obtain⟨s1,a1,l1,k1,s2,a2,l2,k2,rfl,i1,i2⟩:=hv;dsimp only at i1 i2;have I1:=xgv i1;have I2:=xgv i2;have HC:=xgv hc;have SX:=xgv sX;have SY:=xgv sY;have H0:=xgv h0;clear i1 i2 hc sX sY h0;go_enter Tryz.func274,Tryz.ntmps274;go_upto_region 1 with(fail)
 refine zB ?_;intro W0 hW0;obtain⟨hB0,T1,T2,T3,hs0⟩:=yO hW0;have I1:=xgv (I1.out.ext (lx hB0));have I2:=xgv (I2.out.ext (lx hB0));have HC:=xgv (HC.out (.agg #[.bool s1,.slice a1 l1 k1,.bool s2,.slice a2 l2 k2]) W0 hB0 ⟨_,_,_,_,_,_,_,_,rfl,I1.out,I2.out⟩);have c1:=T1.cell 0;obtain⟨d1,d2,d3,d4,d5,d6,d7,d8⟩:=T2.four;clear hW0;rcases hg with rfl|rfl|rfl<;>(
  go_wp2_with fail
  refine HC.out.mono ?_;rintro e w1 ⟨u,rfl,hu,hb1⟩;obtain⟨s3,a3,l3,k3,s4,a4,l4,k4,rfl,i3,i4⟩:=id hu;have T3:=T3.below hb1;have HU:=xgv hu;have hB:=nx hB0 hb1;clear hu i3 i4;go_wp2_with fail
  refine(zFX _ X Y w1 HU.out SX.out SY.out H0.out).mono ?_;rintro e w2 ⟨rv,rfl,hr,hb2⟩;obtain⟨s5,a5,l5,k5,s6,a6,l6,k6,rfl,i5,i6⟩:=hr;have I5:=xgv i5;have I6:=xgv i6;have T3:=T3.below hb2;have hB:=nx hB hb2;obtain⟨r1,r2,r3,r4,r5,r6,r7,r8⟩:=T3.four;clear i5 i6;go_wp2;have hx:=T3.lext4 dE 0 (.bool s5) (.slice a5 l5 k5) (.bool s6) (.slice a6 l6 k6);exact qP rfl rfl rfl (T3.put4 _ _ _ _) ⟨_,_,_,_,_,_,_,_,rfl,I5.out.ext hx,I6.out.ext hx⟩ (jB hB oM 0 _ _ _ _))
theorem zNE{a b:Nat}(v1 v2:Value)(p q:Rat)(w:World)(h1:jN w v1 p)(h2:jN w v2 q)(hp:HQ a p)(hq:HQ b q)(hab:a+b+1<=1000000):Calls Tryz.prog 240 #[v1,v2] w (zAT w (p+q)):=by
 obtain⟨e1,e2,e3,e4,e5⟩:=HQ.ints hp hq;have hdp:((p.den:Int)).natAbs<2^a:=by rw[Int.natAbs_natCast];exact hp.2
 have hdq:((q.den:Int)).natAbs<2^b:=by rw[Int.natAbs_natCast];exact hq.2
 have HON:qE (∀(u1 v:Value) (w:World),jM w u1 (p.num,(p.den:Int))->jM w v (q.num,(q.den:Int))->Calls Tryz.prog 274 #[.agg #[.func (.func 276) #[u1] #[]],v] w (zAT w (p+q))):=⟨fun u1 v w k1 k2=>by
  rw[zDM];exact zLD (.inl rfl) u1 v q.num q.den _ _ w k2 (fun u W hW hu=>zMR u1 u p.num p.den q.num q.den W (k1.below hW) hu (qL hp.1 oM) (qL hdp oM) (qL hq.1 oM) (qL hdq oM) (qL e1 oM) (qL e2 oM))
   (qL (zQD e1 e2) oM) (qL e4 oM) (zDN p q)⟩
 clear e1 e2 e3 e4 e5 hdp hdq hp hq hab;obtain⟨s1,a1,l1,k1,s2,a2,l2,k2,rfl,i1,i2⟩:=h1;obtain⟨s3,a3,l3,k3,s4,a4,l4,k4,rfl,i3,i4⟩:=id h2;have I1:=xgv i1;have I2:=xgv i2;have H2:=xgv h2;clear i1 i2 i3 i4 h2;go_enter Tryz.func240,Tryz.ntmps240;go_upto_region 1 with(fail)
 refine zB ?_;intro W0 hW0;obtain⟨hB0,T1,T2,T3,hs0⟩:=yO hW0;have I1:=xgv (I1.out.ext (lx hB0));have I2:=xgv (I2.out.ext (lx hB0));have H2:=xgv (H2.out.ext (lx hB0));obtain⟨c1,c2,c3,c4,c5,c6,c7,c8⟩:=T1.four;obtain⟨d1,d2,d3,d4,d5,d6,d7,d8⟩:=T2.four;clear hW0;go_wp2_with fail
 refine(HON.out _ _ W0 ⟨_,_,_,_,_,_,_,_,rfl,I1.out,I2.out⟩ H2.out).mono ?_;rintro e w2 ⟨rv,rfl,hr,hb2⟩;obtain⟨s5,a5,l5,k5,s6,a6,l6,k6,rfl,i5,i6⟩:=hr;have I5:=xgv i5;have I6:=xgv i6;have T3:=T3.below hb2;have hB:=nx hB0 hb2;obtain⟨r1,r2,r3,r4,r5,r6,r7,r8⟩:=T3.four;clear i5 i6 c1 c2 c3 c4 c5 c6 c7 c8 d1 d2 d3 d4 d5 d6 d7 d8;go_wp2;have hx:=T3.lext4 dE 0 (.bool s5) (.slice a5 l5 k5) (.bool s6) (.slice a6 l6 k6);exact qP rfl rfl rfl (T3.put4 _ _ _ _) ⟨_,_,_,_,_,_,_,_,rfl,I5.out.ext hx,I6.out.ext hx⟩ (jB hB oM 0 _ _ _ _)
theorem zNJ{a b:Nat}(v1 v2:Value)(p q:Rat)(w:World)(h1:jN w v1 p)(h2:jN w v2 q)(hp:HQ a p)(hq:HQ b q)(hab:a+b+1<=1000000):Calls Tryz.prog 241 #[v1,v2] w (zAT w (p*q)):=by
 obtain⟨e1,e2,e3,e4,e5⟩:=HQ.ints hp hq;have hdp:((p.den:Int)).natAbs<2^a:=by rw[Int.natAbs_natCast];exact hp.2
 have hdq:((q.den:Int)).natAbs<2^b:=by rw[Int.natAbs_natCast];exact hq.2
 have HON:qE (∀(u1 v:Value) (w:World),jM w u1 (p.num,(p.den:Int))->jM w v (q.num,(q.den:Int))->Calls Tryz.prog 274 #[.agg #[.func (.func 277) #[u1] #[]],v] w (zAT w (p*q))):=⟨fun u1 v w k1 k2=>by
  rw[zDc];exact zLD (.inr (.inl rfl)) u1 v q.num q.den _ _ w k2 (fun u W hW hu=>zMV u1 u p.num p.den q.num q.den W (k1.below hW) hu (qL hp.1 oM) (qL hdp oM) (qL hq.1 oM) (qL hdq oM))
   (qL e3 oM) (qL e4 oM) (zDN p q)⟩
 clear e1 e2 e3 e4 e5 hdp hdq hp hq hab;obtain⟨s1,a1,l1,k1,s2,a2,l2,k2,rfl,i1,i2⟩:=h1;obtain⟨s3,a3,l3,k3,s4,a4,l4,k4,rfl,i3,i4⟩:=id h2;have I1:=xgv i1;have I2:=xgv i2;have H2:=xgv h2;clear i1 i2 i3 i4 h2;go_enter Tryz.func241,Tryz.ntmps241;go_upto_region 1 with(fail)
 refine zB ?_;intro W0 hW0;obtain⟨hB0,T1,T2,T3,hs0⟩:=yO hW0;have I1:=xgv (I1.out.ext (lx hB0));have I2:=xgv (I2.out.ext (lx hB0));have H2:=xgv (H2.out.ext (lx hB0));obtain⟨c1,c2,c3,c4,c5,c6,c7,c8⟩:=T1.four;obtain⟨d1,d2,d3,d4,d5,d6,d7,d8⟩:=T2.four;clear hW0;go_wp2_with fail
 refine(HON.out _ _ W0 ⟨_,_,_,_,_,_,_,_,rfl,I1.out,I2.out⟩ H2.out).mono ?_;rintro e w2 ⟨rv,rfl,hr,hb2⟩;obtain⟨s5,a5,l5,k5,s6,a6,l6,k6,rfl,i5,i6⟩:=hr;have I5:=xgv i5;have I6:=xgv i6;have T3:=T3.below hb2;have hB:=nx hB0 hb2;obtain⟨r1,r2,r3,r4,r5,r6,r7,r8⟩:=T3.four;clear i5 i6 c1 c2 c3 c4 c5 c6 c7 c8 d1 d2 d3 d4 d5 d6 d7 d8;go_wp2;have hx:=T3.lext4 dE 0 (.bool s5) (.slice a5 l5 k5) (.bool s6) (.slice a6 l6 k6);exact qP rfl rfl rfl (T3.put4 _ _ _ _) ⟨_,_,_,_,_,_,_,_,rfl,I5.out.ext hx,I6.out.ext hx⟩ (jB hB oM 0 _ _ _ _)
theorem zI6(w:World){v1 v2:Value}{z:Int}(h1:zH w v1 z)(h2:zH w v2 1):∃s a l c s' a' l' c',v1= .agg #[.bool s,.slice a l c]/\v2= .agg #[.bool s',.slice a' l' c']/\jN w (.agg #[.bool s,.slice a l c,.bool s',.slice a' l' c']) (z:Rat):=by
 obtain⟨s,a,l,c,rfl⟩:=h1.parts;obtain⟨s',a',l',c',rfl⟩:=h2.parts;exact⟨s,a,l,c,s',a',l',c',rfl,rfl,_,_,_,_,_,_,_,_,rfl,by rw[Rat.num_intCast];exact h1,by rw[Rat.den_intCast];exact h2⟩
theorem zDj(v:Value)(z:Int)(w:World)(h:zH w v z)(hs:Sm z):Calls Tryz.prog 234 #[v] w (zAT w (z:Rat)):=by
 obtain⟨s1,a1,l1,k1,rfl⟩:=h.parts;have H:=xgv h;have S:=xgv hs;have HAD:qE (∀(v1:Value) (w:World),zH w v1 z->Calls Tryz.prog 156 #[v1,.agg #[.bool false,.slice none 0 0]] w (jL w z)):=⟨fun v1 w k=>by
  have:=zBw v1 (.agg #[.bool false,.slice none 0 0]) z 0 w k.weak (zAD w).weak S.out (Smd.one (z:=0) dE).sm;rwa[Int.add_zero]at this⟩
 clear h hs;go_enter Tryz.func234,Tryz.ntmps234;go_upto_region 1 with(fail)
 refine zB ?_;intro W0 hW0;obtain⟨hB0,T1,T2,hs0⟩:=qH hW0;obtain⟨c1,c2,c3,c4⟩:=T1.two;clear hW0;go_wp2_with fail
 refine(HAD.out _ W0 (H.out.ext (lx hB0))).mono ?_;rintro e w1 ⟨u,rfl,hu,hb1⟩;have HU:=xgv hu;have T2:=T2.below hb1;have hB:=nx hB0 hb1;clear hu;go_wp2_with fail
 refine(zBK 1 w1 dE dE).mono ?_;rintro e w2 ⟨o,rfl,ho,hb2⟩;obtain⟨s,a,l,c,s',a',l',c',rfl,rfl,hr⟩:=zI6 w2 (HU.out.ext (lx hb2)) ho;have HR:=xgv hr;have T2:=T2.below hb2;have hB:=nx hB hb2;obtain⟨r1,r2,r3,r4,r5,r6,r7,r8⟩:=T2.four;clear ho hr c1 c2 c3 c4;go_wp2;have hx:=T2.lext4 dE 0 (.bool s) (.slice a l c) (.bool s') (.slice a' l' c');exact qP rfl rfl rfl (T2.put4 _ _ _ _) (HR.out.ext hx) (jB hB oM 0 _ _ _ _)
theorem zLb(v1 v2:Value)(n d:Int)(w:World)(h1:zH w v1 n)(h2:zH w v2 d)(s1:Sm n)(s2:Sm d)(h0:d≠0):
  Calls Tryz.prog 232 #[v1,v2] w fun e w'=>∃v,e= .returned (.tuple #[v,.int .i64 0])/\jN w' v (Rat.divInt n d)/\Below w.heap.size w w':=by
 obtain⟨n1,a1,l1,k1,rfl⟩:=h1.parts;obtain⟨n2,a2,l2,k2,rfl⟩:=h2.parts;obtain⟨k,hk⟩:∃k,qJ d 0=k:=⟨_,rfl⟩;have hk0:k≠0:=by rw[<-hk];unfold qJ;split<;>(try split)<;>omega
 have hk0':(k==0)=false:=by simpa using hk0
 have HSG:qE (∀(v:Value) (w:World),zH w v d->Calls Tryz.prog 160 #[v] w fun e w'=>e= .returned (.int .i64 k)/\Below w.heap.size w w'):=⟨fun v w hv=>hk ▸ qV v d w hv.weak⟩;have HL:qE (∀(v:Value) (w:World),jM w v (n,d)->Calls Tryz.prog 271 #[v] w (zAT w (Rat.divInt n d))):=⟨fun v w hv=>zFX v n d w hv s1 s2 h0⟩;have I1:=xgv h1;have I2:=xgv h2;clear h1 h2 s1 s2 h0 hk;go_enter Tryz.func232,Tryz.ntmps232;go_upto_region 1 with(fail)
 refine zB ?_;intro W0 hW0;obtain⟨hB0,T1,T2,T3,hs0⟩:=yO hW0;have I1:=xgv (I1.out.ext (lx hB0));have I2:=xgv (I2.out.ext (lx hB0));obtain⟨c1,c2,c3,c4⟩:=T1.two;obtain⟨d1,d2,d3,d4⟩:=T2.two;clear hW0;go_wp2_with fail
 refine(HSG.out _ W0 I2.out).mono ?_;rintro e w1 ⟨rfl,hb1⟩;have T1:=T1.below hb1;have T2:=T2.below hb1;have T3:=T3.below hb1;have I1:=xgv (I1.out.ext (lx hb1));have I2:=xgv (I2.out.ext (lx hb1));have hB:=nx hB0 hb1;clear c1 c2 c3 c4 d1 d2 d3 d4;obtain⟨c1,c2,c3,c4⟩:=T1.two;obtain⟨d1,d2,d3,d4⟩:=T2.two;go_wp2_with fail
 refine(HL.out _ w1 ⟨_,_,_,_,_,_,_,_,rfl,I1.out,I2.out⟩).mono ?_;rintro e w2 ⟨rv,rfl,hr,hb2⟩;obtain⟨s5,a5,l5,k5,s6,a6,l6,k6,rfl,i5,i6⟩:=hr;have I5:=xgv i5;have I6:=xgv i6;have T3:=T3.below hb2;have hB:=nx hB hb2;obtain⟨r1,r2,r3,r4,r5,r6,r7,r8⟩:=T3.four;clear i5 i6 c1 c2 c3 c4 d1 d2 d3 d4;go_wp2;have hx:=T3.lext4 dE 0 (.bool s5) (.slice a5 l5 k5) (.bool s6) (.slice a6 l6 k6);exact bodyPost_ret (zCM rfl _ rfl (T3.put4 _ _ _ _) rfl) rfl ⟨_,rfl,⟨_,_,_,_,_,_,_,_,rfl,I5.out.ext hx,I6.out.ext hx⟩,jB hB oM 0 _ _ _ _⟩
theorem zLf(v:Value)(q:Rat)(w:World)(h:jN w v q):Calls Tryz.prog 272 #[v] w fun e w'=>e= .returned (.int .i64 (qJ q.num 0))/\Below w.heap.size w w':=by
 obtain⟨s1,a1,l1,k1,s2,a2,l2,k2,rfl,i1,i2⟩:=h;dsimp only at i1 i2;obtain⟨k,hk⟩:∃k,qJ q.num 0=k:=⟨_,rfl⟩;rw[hk];have HSG:qE (∀(v:Value) (w:World),zH w v q.num->Calls Tryz.prog 160 #[v] w fun e w'=>e= .returned (.int .i64 k)/\Below w.heap.size w w'):=⟨fun v w hv=>hk ▸ qV v _ w hv.weak⟩;have I1:=xgv i1;clear i1 i2 hk;go_enter Tryz.func272,Tryz.ntmps272;go_upto_region 1 with(fail)
 refine zB ?_;intro W0 hW0;obtain⟨hB0,T1,hs0⟩:=zK hW0;obtain⟨c1,c2,c3,c4,c5,c6,c7,c8⟩:=T1.four;clear hW0;go_wp2_with fail
 refine(HSG.out _ W0 (I1.out.ext (lx hB0))).mono ?_;rintro e w1 ⟨rfl,hb1⟩;go_wp2;go_ret;exact⟨rfl,nx hB0 hb1⟩
theorem zBm(v:Value)(q:Rat)(w:World)(h:jN w v q):Calls Tryz.prog 165 #[v] w fun e w'=>∃u,e= .returned u/\u= .bool (isZ q)/\Below w.heap.size w w':=by
 obtain⟨s1,a1,l1,k1,s2,a2,l2,k2,rfl,i1,i2⟩:=h;dsimp only at i1 i2;obtain⟨b,hb⟩:∃b,isZ q=b:=⟨_,rfl⟩;obtain⟨k,hk⟩:∃k,qJ (q.den:Int) 1=k:=⟨_,rfl⟩;have HKB:qE ((k==0)=b):=⟨by
  rw[<-hb,<-hk];unfold isZ qJ;have:=q.den_nz;by_cases e:(q.den:Int)=1
  ·rw[e];rfl
  ·rw[decide_eq_false e]
   split
   ·rfl
   ·rw[if_pos oM];rfl⟩
 have HC:qE (∀(v1 v2:Value) (w:World),zH w v1 (q.den:Int)->zH w v2 1->Calls Tryz.prog 176 #[v1,v2] w fun e w'=>∃v,e= .returned v/\v= .int .i64 k/\Below w.heap.size w w'):=⟨fun v1 v2 w h1 h2=>(zHg v1 v2 _ 1 w h1.weak h2.weak).mono fun e w' ⟨x,y⟩=>⟨_,x,by rw[hk],y⟩⟩;have I2:=xgv i2;rw[hb];clear i1 i2 hk hb;go_enter Tryz.func165,Tryz.ntmps165;go_upto_region 1 with(fail)
 refine zB ?_;intro W0 hW0;obtain⟨hB0,T1,hs0⟩:=zK hW0;obtain⟨c1,c2,c3,c4,c5,c6,c7,c8⟩:=T1.four;have I2:=xgv (I2.out.ext (lx hB0));clear hW0;refine zE rfl (RV W0 _ [VP 0 3 w.heap.size 2,E 1 4 (.agg #[.bool s2,.slice a2 l2 k2]),EI 2 5 (1),VN 3 6 k,E 4 7 (.bool b),E 5 2 (.bool b)]) kR RV.start (RV.fin kR ?fin1) ?steps1
 case steps1=>
  (repeat' constructor)<;>(intro L T wS hL hd hcl hI K hK;try refine zA rfl ?_)
  ·exact xgs (hI.k 1 rfl kR)
  ·have zt0:=hI.e mm0 (hd 0)
   have cc0:=hI.cell c3;have cc1:=hI.cell c4;exact xgu
  ·go_simp
   refine(zBK 1 _ dE dE).mono ?_;exact xgo
  ·have zt1:=hI.e mm1 (hd 1)
   obtain⟨v2,zt2,h2⟩:=hI.vi mm2 (hd 2);go_simp;refine(HC.out _ _ _ (I2.out.ext (lx hI.bel)) h2).mono ?_;rintro e wa ⟨v,rfl,hv,hba⟩;exact hK _ _ ((hI.world hba).y mm3 hv)
  ·have zt3:=hI.e mm3 (hd 3)
   have hkb:=HKB.out;exact xgu
  ·exact xgs (hI.e mm4 (hd 4))
 intro w1 hbw1 T hT;simp only[Fin,E,EI,VP,VSl,VN,xgg,xgh,xgi,xgj]at hT;obtain⟨va2,ha2,rfl⟩:=hT;go_wp2;go_ret;exact⟨_,rfl,rfl,nx hB0 hbw1⟩
theorem zNF{a b:Nat}(v1 v2:Value)(p q:Rat)(w:World)(h1:jN w v1 p)(h2:jN w v2 q)(hp:HQ a p)(hq:HQ b q)(hab:a+b+1<=1000000)(h0:q≠0):
  Calls Tryz.prog 233 #[v1,v2] w fun e w'=>∃v,e= .returned (.tuple #[v,.int .i64 0])/\jN w' v (p/q)/\Below w.heap.size w w':=by
 obtain⟨e1,e2,e3,e4,e5⟩:=HQ.ints hp hq;have hdp:((p.den:Int)).natAbs<2^a:=by rw[Int.natAbs_natCast];exact hp.2
 have hdq:((q.den:Int)).natAbs<2^b:=by rw[Int.natAbs_natCast];exact hq.2
 have HON:qE (∀(u1 v:Value) (w:World),jM w u1 (p.num,(p.den:Int))->jM w v (q.num,(q.den:Int))->Calls Tryz.prog 274 #[.agg #[.func (.func 273) #[u1] #[]],v] w (zAT w (p/q))):=⟨fun u1 v w k1 k2=>by
  rw[zFM];exact zLD (.inr (.inr rfl)) u1 v q.num q.den _ _ w k2 (fun u W hW hu=>zMS u1 u p.num p.den q.num q.den W (k1.below hW) hu (qL hp.1 oM) (qL hdp oM) (qL hq.1 oM) (qL hdq oM))
   (qL e1 oM) (qL e5 oM) (Int.mul_ne_zero (zFK p) (zLB h0))⟩
 obtain⟨k,hk⟩:∃k,qJ q.num 0=k:=⟨_,rfl⟩;have hk0:k≠0:=by rw[<-hk];have:=zLB h0;unfold qJ;split<;>(try split)<;>omega
 have hk0':(k==0)=false:=by simpa using hk0
 have HSG:qE (∀(v:Value) (w:World),jN w v q->Calls Tryz.prog 272 #[v] w fun e w'=>e= .returned (.int .i64 k)/\Below w.heap.size w w'):=⟨fun v w hv=>hk ▸ zLf v q w hv⟩;clear e1 e2 e3 e4 e5 hdp hdq hp hq hab hk h0;obtain⟨s1,a1,l1,k1,s2,a2,l2,k2,rfl,i1,i2⟩:=h1;obtain⟨s3,a3,l3,k3,s4,a4,l4,k4,rfl,i3,i4⟩:=id h2;have I1:=xgv i1;have I2:=xgv i2;have H2:=xgv h2;clear i1 i2 i3 i4 h2;go_enter Tryz.func233,Tryz.ntmps233;go_upto_region 1 with(fail)
 refine zB ?_;intro W0 hW0;obtain⟨hB0,T1,T2,T3,hs0⟩:=yO hW0;have I1:=xgv (I1.out.ext (lx hB0));have I2:=xgv (I2.out.ext (lx hB0));have H2:=xgv (H2.out.ext (lx hB0));obtain⟨c1,c2,c3,c4,c5,c6,c7,c8⟩:=T1.four;obtain⟨d1,d2,d3,d4,d5,d6,d7,d8⟩:=T2.four;clear hW0;go_wp2_with fail
 refine(HSG.out _ W0 H2.out).mono ?_;rintro e w1 ⟨rfl,hb1⟩;have T1:=T1.below hb1;have T2:=T2.below hb1;have T3:=T3.below hb1;have I1:=xgv (I1.out.ext (lx hb1));have I2:=xgv (I2.out.ext (lx hb1));have H2:=xgv (H2.out.ext (lx hb1));have hB0:=nx hB0 hb1;clear c1 c2 c3 c4 c5 c6 c7 c8 d1 d2 d3 d4 d5 d6 d7 d8;obtain⟨c1,c2,c3,c4,c5,c6,c7,c8⟩:=T1.four;obtain⟨d1,d2,d3,d4,d5,d6,d7,d8⟩:=T2.four;go_wp2_with fail
 refine(HON.out _ _ w1 ⟨_,_,_,_,_,_,_,_,rfl,I1.out,I2.out⟩ H2.out).mono ?_;rintro e w2 ⟨rv,rfl,hr,hb2⟩;obtain⟨s5,a5,l5,k5,s6,a6,l6,k6,rfl,i5,i6⟩:=hr;have I5:=xgv i5;have I6:=xgv i6;have T3:=T3.below hb2;have hB:=nx hB0 hb2;obtain⟨r1,r2,r3,r4,r5,r6,r7,r8⟩:=T3.four;clear i5 i6 c1 c2 c3 c4 c5 c6 c7 c8 d1 d2 d3 d4 d5 d6 d7 d8;go_wp2;have hx:=T3.lext4 dE 0 (.bool s5) (.slice a5 l5 k5) (.bool s6) (.slice a6 l6 k6);exact bodyPost_ret (zCM rfl _ rfl (T3.put4 _ _ _ _) rfl) rfl ⟨_,rfl,⟨_,_,_,_,_,_,_,_,rfl,I5.out.ext hx,I6.out.ext hx⟩,jB hB oM 0 _ _ _ _⟩
def zGV(p:Int × Int):Bool:=decide (0<p.2/\Int.gcd p.1 p.2=1)
theorem zOa(q:Rat):zGV (q.num,(q.den:Int))=true:=by
 unfold zGV;rw[decide_eq_true_eq];exact⟨zML q,zOx q⟩
theorem zJt(v:Value)(p:Int × Int)(w:World)(h:jM w v p)(s1:Sm p.1)(s2:Sm p.2):Calls Tryz.prog 179 #[v] w fun e w'=>∃u,e= .returned u/\u= .bool (zGV p)/\Below w.heap.size w w':=by
 obtain⟨n,d⟩:=p;obtain⟨n1,a1,l1,k1,n2,a2,l2,k2,rfl,i1,i2⟩:=h;dsimp only at i1 i2 s1 s2;obtain⟨b,hb⟩:∃b,zGV (n,d)=b:=⟨_,rfl⟩;obtain⟨k,hk⟩:∃k,qJ d 0=k:=⟨_,rfl⟩;have HK:qE (k<=0↔d<=0):=⟨by rw[<-hk];unfold qJ;split<;>(try split)<;>omega⟩;have HSG:qE (∀(v:Value) (w:World),zH w v d->Calls Tryz.prog 160 #[v] w fun e w'=>e= .returned (.int .i64 k)/\Below w.heap.size w w'):=⟨fun v w hv=>hk ▸ qV v d w hv.weak⟩;obtain⟨g,hg⟩:∃g:Int,((Int.gcd n d:Nat):Int)=g:=⟨_,rfl⟩;have HGC:qE (∀(v1 v2:Value) (w:World),zH w v1 n->zH w v2 d->Calls Tryz.prog 239 #[v1,v2] w (jL w g)):=⟨fun v1 v2 w k1 k2=>hg ▸ zKm v1 v2 n d w k1 k2 s1 s2⟩;obtain⟨m,hm⟩:∃m,qJ g 1=m:=⟨_,rfl⟩;have HC:qE (∀(v1 v2:Value) (w:World),zH w v1 g->zH w v2 1->Calls Tryz.prog 176 #[v1,v2] w fun e w'=>e= .returned (.int .i64 m)/\Below w.heap.size w w'):=⟨fun v1 v2 w h1 h2=>hm ▸ zHg v1 v2 _ 1 w h1.weak h2.weak⟩;have HB0:qE (d<=0->b=false):=⟨fun h=>by rw[<-hb];unfold zGV;exact decide_eq_false fun h2=>by have:=h2.1;dsimp only at this;omega⟩;have HB1:qE (¬ d<=0->(m==0)=b):=⟨fun h=>by
  rw[<-hb,<-hm,<-hg];unfold zGV qJ;by_cases e:Int.gcd n d=1
  ·rw[decide_eq_true (show 0<(n,d).2/\Int.gcd (n,d).1 (n,d).2=1 from⟨by dsimp only;omega,e⟩),e];rfl
  ·rw[decide_eq_false fun h2=>e h2.2]
   split
   ·rfl
   ·rw[if_pos oM];rfl⟩
 have I1:=xgv i1;have I2:=xgv i2;rw[hb];clear i1 i2 hk hb hg hm s1 s2;go_enter Tryz.func179,Tryz.ntmps179;go_upto_region 1 with(fail)
 refine zB ?_;intro W0 hW0;obtain⟨hB0,T1,hs0⟩:=zK hW0;obtain⟨c1,c2,c3,c4,c5,c6,c7,c8⟩:=T1.four;have I1:=xgv (I1.out.ext (lx hB0));have I2:=xgv (I2.out.ext (lx hB0));clear hW0;go_wp2_with fail
 refine(zDJ _ _ W0 I1.out).mono ?_;rintro e w1 ⟨rfl,hb1⟩;have T1:=T1.below hb1;have I1:=xgv (I1.out.ext (lx hb1));have I2:=xgv (I2.out.ext (lx hb1));have hB:=nx hB0 hb1;clear c1 c2 c3 c4 c5 c6 c7 c8;obtain⟨c1,c2,c3,c4,c5,c6,c7,c8⟩:=T1.four;go_wp2_with fail
 refine(zDJ _ _ w1 I2.out).mono ?_;rintro e w2 ⟨rfl,hb2⟩;have T1:=T1.below hb2;have I1:=xgv (I1.out.ext (lx hb2));have I2:=xgv (I2.out.ext (lx hb2));have hB:=nx hB hb2;clear c1 c2 c3 c4 c5 c6 c7 c8;obtain⟨c1,c2,c3,c4,c5,c6,c7,c8⟩:=T1.four;go_wp2_with fail
 refine(HSG.out _ w2 I2.out).mono ?_;rintro e w3 ⟨rfl,hb3⟩;have T1:=T1.below hb3;have I1:=xgv (I1.out.ext (lx hb3));have I2:=xgv (I2.out.ext (lx hb3));have hB:=nx hB hb3;clear c1 c2 c3 c4 c5 c6 c7 c8;obtain⟨c1,c2,c3,c4,c5,c6,c7,c8⟩:=T1.four;by_cases hd:d<=0
 ·have hkk:=HK.out.2 hd
  have hbf:=HB0.out hd;clear HK HB0 HB1;subst hbf;go_wp2;go_ret;exact⟨_,rfl,rfl,hB⟩
 ·have hbt:=HB1.out oM
  have hkk:¬ k<=0:=fun h=>hd (HK.out.1 h)
  clear HK HB0 HB1 hd;go_wp2_with fail
  refine(HGC.out _ _ w3 I1.out I2.out).mono ?_;rintro e w4 ⟨gv,rfl,hgv,hb4⟩;obtain⟨gs,ga,gl,gc,rfl⟩:=hgv.parts;have HG:=xgv hgv;have hB:=nx hB hb4;clear hgv;go_wp2_with fail
  refine(zBK 1 w4 dE dE).mono ?_;rintro e w5 ⟨o,rfl,ho,hb5⟩;have hB:=nx hB hb5;go_wp2_with fail
  refine(HC.out _ _ w5 (HG.out.ext (lx hb5)) ho).mono ?_;rintro e w6 ⟨rfl,hb6⟩;go_wp2;go_ret;exact⟨_,rfl,rfl,nx hB hb6⟩
theorem zBx{z:Int}{e:Nat}(h:z.natAbs<2^e)(he:e<=1000000):Smd z:=⟨Nat.lt_of_lt_of_le h (Nat.le_trans (Nat.pow_le_pow_left (by decide:2<=B32) e) (zAZ (by rw[zAR];omega)))⟩
theorem zLS{N D:Int}{e:Nat}(hN:N.natAbs<2^e)(hD:D.natAbs<2^e)(he:e<=1000000)(h0:0<D):
  ∃g:Int,(∀(v1 v2:Value) (w:World),zH w v1 N->zH w v2 D->Calls Tryz.prog 235 #[v1,v2] w (jL w g))∧
   (∀(v1 v2:Value) (w:World),zH w v1 N->zH w v2 g->Calls Tryz.prog 254 #[v1,v2] w fun e w'=>∃v1 v2,e= .returned (.tuple #[v1,v2,.int .i64 0])/\zH w' v1 (Rat.divInt N D).num/\zH w' v2 (N%g)/\Below w.heap.size w w')∧
   (∀(v1 v2:Value) (w:World),zH w v1 D->zH w v2 g->Calls Tryz.prog 254 #[v1,v2] w fun e w'=>∃v1 v2,e= .returned (.tuple #[v1,v2,.int .i64 0])/\zH w' v1 ((Rat.divInt N D).den:Int)/\zH w' v2 (D%g)/\Below w.heap.size w w'):=by
 have hd0:D≠0:=by omega
 have hL:zH3 N D=((Int.gcd N D:Nat):Int):=by unfold zH3;rw[if_neg oM]
 have hg0:=zK4 (n:=N) hd0;have hgb:(zH3 N D).natAbs<2^e:=by
  refine Nat.lt_of_le_of_lt ?_ hD;rw[hL,Int.natAbs_natCast];exact Nat.le_of_dvd oM (by simpa using Int.natAbs_dvd_natAbs.2 (Int.gcd_dvd_right N D))
 have h1:=zH5 (n:=N) hd0;have h2:=zH4 (n:=N) hd0;refine⟨zH3 N D,fun v1 v2 w k1 k2=>hL ▸ zHA v1 v2 N D w k1 k2 (zBx hN he) (zBx hD he),fun v1 v2 w k1 k2=>?_,fun v1 v2 w k1 k2=>?_⟩
 ·refine(zB8 v1 v2 N _ w k1 k2 (zBx hN he) (zBx hgb he) hg0).mono fun e w' h=>?_
  unfold zME at h;rwa[h1]at h
 ·refine(zB8 v1 v2 D _ w k1 k2 (zBx hD he) (zBx hgb he) hg0).mono fun e w' h=>?_
  unfold zME at h;rwa[h2]at h
theorem zND{e:Nat}(v1 v2:Value)(n d:Int)(w:World)(h1:zH w v1 n)(h2:zH w v2 d)(s1:n.natAbs<2^e)(s2:d.natAbs<2^e)(he:e<=1000000)(h0:d≠0):
  Calls Tryz.prog 216 #[v1,v2] w fun e w'=>∃v,e= .returned (.tuple #[v,.int .i64 0])/\jN w' v (Rat.divInt n d)/\Below w.heap.size w w':=by
 obtain⟨n1,a1,l1,k1,rfl⟩:=h1.parts;obtain⟨n2,a2,l2,k2,rfl⟩:=h2.parts;obtain⟨k,hk⟩:∃k,qJ d 0=k:=⟨_,rfl⟩;have hk0:k≠0:=by rw[<-hk];unfold qJ;split<;>(try split)<;>omega
 have hk0':(k==0)=false:=by simpa using hk0
 have HK:qE (k<0↔d<0):=⟨by rw[<-hk];unfold qJ;split<;>(try split)<;>omega⟩;have HSG:qE (∀(v:Value) (w:World),zH w v d->Calls Tryz.prog 132 #[v] w fun e w'=>e= .returned (.int .i64 k)/\Below w.heap.size w w'):=⟨fun v w hv=>hk ▸ zA0 v d w hv⟩;have I1:=xgv h1;have I2:=xgv h2;have S1:=xgv (And.intro s1 (And.intro s2 he));have H0:=xgv h0;obtain⟨qq,hqq⟩:∃q,Rat.divInt n d=q:=⟨_,rfl⟩;have HQQ:=xgv hqq;rw[hqq];clear h1 h2 s1 s2 h0 hk he hqq;go_enter Tryz.func216,Tryz.ntmps216;go_upto_region 1 with(fail)
 refine zB ?_;intro W0 hW0;obtain⟨hB0,T1,T2,T3,hs0⟩:=yO hW0;have I1:=xgv (I1.out.ext (lx hB0));have I2:=xgv (I2.out.ext (lx hB0));obtain⟨d1,d2,d3,d4⟩:=T2.two;clear hW0;go_wp2_with fail
 refine(HSG.out _ W0 I2.out).mono ?_;rintro e w1 ⟨rfl,hb1⟩;have T1:=T1.below hb1;have T2:=T2.below hb1;have T3:=T3.below hb1;have I1:=xgv (I1.out.ext (lx hb1));have I2:=xgv (I2.out.ext (lx hb1));have hB:=nx hB0 hb1;clear d1 d2 d3 d4;obtain⟨d1,d2,d3,d4⟩:=T2.two;go_wp2_with fail
 refine(HSG.out _ w1 I2.out).mono ?_;rintro e w8 ⟨rfl,hb8⟩;have T1:=T1.below hb8;have T2:=T2.below hb8;have T3:=T3.below hb8;have I1:=xgv (I1.out.ext (lx hb8));have I2:=xgv (I2.out.ext (lx hb8));have hB:=nx hB hb8;clear d1 d2 d3 d4;have q8:=hb8.size;have q1:=hb1.size;by_cases hneg:d<0
 ·have hkn:k<0:=HK.out.2 hneg
  obtain⟨g,hf1,hf2,hf3⟩:=zLS (N:=-n) (D:=-d) (by rw[Int.natAbs_neg];exact S1.out.1) (by rw[Int.natAbs_neg];exact S1.out.2.1) S1.out.2.2 oM;rw[Rat.neg_divInt_neg,HQQ.out]at hf2 hf3;have HGC:=xgv hf1;have HD1:=xgv hf2;have HD2:=xgv hf3;have SN:=xgv (And.intro (qL S1.out.1 S1.out.2.2) (qL S1.out.2.1 S1.out.2.2));clear hneg hf1 hf2 hf3 HSG;obtain⟨c1,c2,c3,c4⟩:=T1.two;obtain⟨d1,d2,d3,d4⟩:=T2.two;go_upto_region 4 with(fail)
  refine zC 4 rfl (RV w8 _ [E 0 20 (.agg #[.bool n1,.slice a1 l1 k1]),EI 1 21 (-n),E 2 22 (.agg #[.bool n2,.slice a2 l2 k2]),EI 3 23 (-d)]) kR RV.start (RV.fin kR ?fin1) ?steps1
  case steps1=>
   (repeat' constructor)<;>(intro L T wS hL hd hcl hI K hK;try refine zA rfl ?_)
   ·have zt:=hI.k 2 rfl kR
    have cc0:=hI.cell c1;have cc1:=hI.cell c2;exact xgu
   ·have zt0:=hI.e mm0 (hd 0)
    go_simp;refine(zBb _ n _ (I1.out.ext (lx hI.bel)).weak SN.out.1).mono ?_;exact xgo
   ·have zt:=hI.k 3 rfl kR
    have cc0:=hI.cell d1;have cc1:=hI.cell d2;exact xgu
   ·have zt2:=hI.e mm2 (hd 2)
    go_simp;refine(zBb _ d _ (I2.out.ext (lx hI.bel)).weak SN.out.2).mono ?_;exact xgo
  intro w9 hbw9 T hT;simp only[Fin,E,EI,VP,VSl,VN,xgg,xgh,xgi,xgj]at hT;obtain⟨va1,ha1,va3,ha3,rfl⟩:=hT;simp only[xgl,xgk];obtain⟨xs,xa,xl,xc,rfl⟩:=(show zH _ _ _ from ha1).parts;obtain⟨ys,ya,yl,yc,rfl⟩:=(show zH _ _ _ from ha3).parts;have X1:=xgv (show zH _ _ _ from ha1);have X3:=xgv (show zH _ _ _ from ha3);have T1:=T1.below hbw9;have T2:=T2.below hbw9;have T3:=T3.below hbw9;have q9:=hbw9.size;have hB:=nx hB hbw9;clear ha1 ha3 c1 c2 c3 c4 d1 d2 d3 d4;obtain⟨c1,c2,c3,c4⟩:=T1.two;obtain⟨d1,d2,d3,d4⟩:=T2.two;have q1:=T1.lt;have q2:=T2.lt;go_upto_region 5 with(fail)
  refine zB ?_;intro WX hWX;have hB:Below w.heap.size w WX:=by rw[hWX.out];exact zO (zO (zO (zO hB (xgf _) _ _) (xgf _) _ _) oM _ _) oM _ _
  have hl1:=T1.lext2 dE (.bool xs) (.slice xa xl xc);have T2':=(show Blk _ (w.heap.size+1) _ _ from(zV w9 w.heap.size 0 1 (w.heap.size+1) (.bool xs) (.slice xa xl xc) oM).trans T2);have hl2:yI w9 WX:=by rw[hWX.out];exact hl1.trans (T2'.lext2 dE _ _)
  have hT1:jU WX w.heap.size (-n):=by
   refine⟨xs,xa,xl,xc,?_,X1.out.ext hl2⟩;rw[hWX.out];exact(zV _ _ _ _ _ _ _ oM).trans (T1.put2 _ _)
  have hT2:jU WX (w.heap.size+1) (-d):=by
   refine⟨ys,ya,yl,yc,?_,X3.out.ext hl2⟩;rw[hWX.out];exact T2'.put2 _ _
  have T3:Blk WX (w.heap.size+1+1) tQ #[.bool false,.slice none 0 0,.bool false,.slice none 0 0]:=by
   rw[hWX.out];exact((zV _ _ _ _ _ _ _ oM).trans (zV _ _ _ _ _ _ _ oM)).trans T3
  clear hWX hl1 T2' hl2 c1 c2 c3 c4 d1 d2 d3 d4 X1 X3;obtain⟨ns,na,nl,nc,nT,nI⟩:=id hT1;obtain⟨ds,da,dl,dc,dT,dI⟩:=id hT2;obtain⟨c1,c2,c3,c4⟩:=nT.two;obtain⟨d1,d2,d3,d4⟩:=dT.two;have NI:=xgv nI;have DI:=xgv dI;clear nI dI hT1 hT2;go_wp2_with fail
  refine(HGC.out _ _ WX NI.out DI.out).mono ?_;rintro e w2 ⟨gv,rfl,hgv,hb2⟩;obtain⟨gs,ga,gl,gc,rfl⟩:=hgv.parts;have GI:=xgv hgv;have nT:=nT.below hb2;have dT:=dT.below hb2;have T3:=T3.below hb2;have NI:=xgv (NI.out.ext (lx hb2));have DI:=xgv (DI.out.ext (lx hb2));have hB:=nx hB hb2;clear hgv c1 c2 c3 c4 d1 d2 d3 d4;go_upto_region 6 with(fail)
  refine zB ?_;intro W3 hW3;obtain⟨hB3,T6,hs3⟩:=zK hW3;have nT:=nT.below hB3;have dT:=dT.below hB3;have T3:=T3.below hB3;have NI:=xgv (NI.out.ext (lx hB3));have DI:=xgv (DI.out.ext (lx hB3));have GI:=xgv (GI.out.ext (lx hB3));have hB:=nx hB hB3;clear hW3;obtain⟨c1,c2,c3,c4⟩:=nT.two;obtain⟨g1,g2,g3,g4⟩:=T6.two;go_wp2_with fail
  refine(HD1.out _ _ W3 NI.out GI.out).mono ?_;rintro e w4 ⟨qv,rv,rfl,hq,hr,hb4⟩;obtain⟨qs,qa,ql,qc,rfl⟩:=hq.parts;obtain⟨rs,ra,rl,rc,rfl⟩:=hr.parts;have dT:=dT.below hb4;have T3:=T3.below hb4;have T6:=T6.below hb4;have DI:=xgv (DI.out.ext (lx hb4));have GI:=xgv (GI.out.ext (lx hb4));have QI:=xgv hq;have hB:=nx hB hb4;clear hq hr c1 c2 c3 c4 g1 g2 g3 g4;go_upto_region 7 with(fail)
  refine zB ?_;intro W5 hW5;obtain⟨hB5,T7,T8,hs5⟩:=qH hW5;have dT:=dT.below hB5;have T3:=T3.below hB5;have T6:=T6.below hB5;have DI:=xgv (DI.out.ext (lx hB5));have GI:=xgv (GI.out.ext (lx hB5));have QI:=xgv (QI.out.ext (lx hB5));have hB:=nx hB hB5;clear hW5;obtain⟨d1,d2,d3,d4⟩:=dT.two;obtain⟨g1,g2,g3,g4⟩:=T6.two;go_wp2_with fail
  refine(HD2.out _ _ W5 DI.out GI.out).mono ?_;rintro e w6 ⟨pv,ev,rfl,hp,he,hb6⟩;obtain⟨ps,pa,pl,pc,rfl⟩:=hp.parts;obtain⟨es,ea,el,ec,rfl⟩:=he.parts;have T3:=T3.below hb6;have T7:=T7.below hb6;have QI:=xgv (QI.out.ext (lx hb6));have PI:=xgv hp;have hB:=nx hB hb6;clear hp he d1 d2 d3 d4 g1 g2 g3 g4;go_upto_region 8 with(fail)
  refine zB ?_;intro W7 hW7;obtain⟨hB7,T9,T10,hs7⟩:=qH hW7;have T3:=T3.below hB7;have T7:=T7.below hB7;have QI:=xgv (QI.out.ext (lx hB7));have PI:=xgv (PI.out.ext (lx hB7));have hB:=nx hB hB7;clear hW7;obtain⟨g1,g2,g3,g4⟩:=T7.two;obtain⟨f1,f2,f3,f4⟩:=T9.two;obtain⟨r1,r2,r3,r4,r5,r6,r7,r8⟩:=T3.four;go_wp2;have hx:=T3.lext4 dE 0 (.bool qs) (.slice qa ql qc) (.bool ps) (.slice pa pl pc);exact bodyPost_ret (zCM rfl _ rfl (T3.put4 _ _ _ _) rfl) rfl ⟨_,rfl,⟨_,_,_,_,_,_,_,_,rfl,QI.out.ext hx,PI.out.ext hx⟩,jB hB oM 0 _ _ _ _⟩
 ·have hkn:¬ k<0:=fun h=>hneg (HK.out.1 h)
  obtain⟨g,hf1,hf2,hf3⟩:=zLS (N:=n) (D:=d) S1.out.1 S1.out.2.1 S1.out.2.2 (by have:=H0.out;omega);rw[HQQ.out]at hf2 hf3;have HGC:=xgv hf1;have HD1:=xgv hf2;have HD2:=xgv hf3;have hT1:jU w8 w.heap.size n:=⟨_,_,_,_,T1,I1.out⟩;have hT2:jU w8 (w.heap.size+1) d:=⟨_,_,_,_,T2,I2.out⟩;clear hneg hf1 hf2 hf3 HSG;go_upto_region 5 with(fail)
  obtain⟨ns,na,nl,nc,nT,nI⟩:=id hT1;obtain⟨ds,da,dl,dc,dT,dI⟩:=id hT2;obtain⟨c1,c2,c3,c4⟩:=nT.two;obtain⟨d1,d2,d3,d4⟩:=dT.two;have NI:=xgv nI;have DI:=xgv dI;clear nI dI hT1 hT2;go_wp2_with fail
  refine(HGC.out _ _ w8 NI.out DI.out).mono ?_;rintro e w2 ⟨gv,rfl,hgv,hb2⟩;obtain⟨gs,ga,gl,gc,rfl⟩:=hgv.parts;have GI:=xgv hgv;have nT:=nT.below hb2;have dT:=dT.below hb2;have T3:=T3.below hb2;have NI:=xgv (NI.out.ext (lx hb2));have DI:=xgv (DI.out.ext (lx hb2));have hB:=nx hB hb2;clear hgv c1 c2 c3 c4 d1 d2 d3 d4;go_upto_region 6 with(fail)
  refine zB ?_;intro W3 hW3;obtain⟨hB3,T6,hs3⟩:=zK hW3;have nT:=nT.below hB3;have dT:=dT.below hB3;have T3:=T3.below hB3;have NI:=xgv (NI.out.ext (lx hB3));have DI:=xgv (DI.out.ext (lx hB3));have GI:=xgv (GI.out.ext (lx hB3));have hB:=nx hB hB3;clear hW3;obtain⟨c1,c2,c3,c4⟩:=nT.two;obtain⟨g1,g2,g3,g4⟩:=T6.two;go_wp2_with fail
  refine(HD1.out _ _ W3 NI.out GI.out).mono ?_;rintro e w4 ⟨qv,rv,rfl,hq,hr,hb4⟩;obtain⟨qs,qa,ql,qc,rfl⟩:=hq.parts;obtain⟨rs,ra,rl,rc,rfl⟩:=hr.parts;have dT:=dT.below hb4;have T3:=T3.below hb4;have T6:=T6.below hb4;have DI:=xgv (DI.out.ext (lx hb4));have GI:=xgv (GI.out.ext (lx hb4));have QI:=xgv hq;have hB:=nx hB hb4;clear hq hr c1 c2 c3 c4 g1 g2 g3 g4;go_upto_region 7 with(fail)
  refine zB ?_;intro W5 hW5;obtain⟨hB5,T7,T8,hs5⟩:=qH hW5;have dT:=dT.below hB5;have T3:=T3.below hB5;have T6:=T6.below hB5;have DI:=xgv (DI.out.ext (lx hB5));have GI:=xgv (GI.out.ext (lx hB5));have QI:=xgv (QI.out.ext (lx hB5));have hB:=nx hB hB5;clear hW5;obtain⟨d1,d2,d3,d4⟩:=dT.two;obtain⟨g1,g2,g3,g4⟩:=T6.two;go_wp2_with fail
  refine(HD2.out _ _ W5 DI.out GI.out).mono ?_;rintro e w6 ⟨pv,ev,rfl,hp,he,hb6⟩;obtain⟨ps,pa,pl,pc,rfl⟩:=hp.parts;obtain⟨es,ea,el,ec,rfl⟩:=he.parts;have T3:=T3.below hb6;have T7:=T7.below hb6;have QI:=xgv (QI.out.ext (lx hb6));have PI:=xgv hp;have hB:=nx hB hb6;clear hp he d1 d2 d3 d4 g1 g2 g3 g4;go_upto_region 8 with(fail)
  refine zB ?_;intro W7 hW7;obtain⟨hB7,T9,T10,hs7⟩:=qH hW7;have T3:=T3.below hB7;have T7:=T7.below hB7;have QI:=xgv (QI.out.ext (lx hB7));have PI:=xgv (PI.out.ext (lx hB7));have hB:=nx hB hB7;clear hW7;obtain⟨g1,g2,g3,g4⟩:=T7.two;obtain⟨f1,f2,f3,f4⟩:=T9.two;obtain⟨r1,r2,r3,r4,r5,r6,r7,r8⟩:=T3.four;go_wp2;have hx:=T3.lext4 dE 0 (.bool qs) (.slice qa ql qc) (.bool ps) (.slice pa pl pc);exact bodyPost_ret (zCM rfl _ rfl (T3.put4 _ _ _ _) rfl) rfl ⟨_,rfl,⟨_,_,_,_,_,_,_,_,rfl,QI.out.ext hx,PI.out.ext hx⟩,jB hB oM 0 _ _ _ _⟩
theorem zEm{e:Nat}(v1 v2:Value)(n d:Int)(w:World)(h1:zH w v1 n)(h2:zH w v2 d)(s1:n.natAbs<2^e)(s2:d.natAbs<2^e)(he:e<=1000000)(h0:d≠0):
  Calls Tryz.prog 148 #[v1,v2] w (zAT w (Rat.divInt n d)):=by
 obtain⟨n1,a1,l1,k1,rfl⟩:=h1.parts;obtain⟨n2,a2,l2,k2,rfl⟩:=h2.parts;have HOF:qE (∀(v1 v2:Value) (w:World),zH w v1 n->zH w v2 d->Calls Tryz.prog 216 #[v1,v2] w fun e w'=>∃v,e= .returned (.tuple #[v,.int .i64 0])/\jN w' v (Rat.divInt n d)/\Below w.heap.size w w'):=⟨fun v1 v2 w k1 k2=>zND v1 v2 n d w k1 k2 s1 s2 he h0⟩;have I1:=xgv h1;have I2:=xgv h2;clear h1 h2 s1 s2 he h0;go_enter Tryz.func148,Tryz.ntmps148;go_upto_region 1 with(fail)
 refine zB ?_;intro W0 hW0;obtain⟨hB0,T1,T2,T3,hs0⟩:=yO hW0;obtain⟨c1,c2,c3,c4⟩:=T1.two;obtain⟨d1,d2,d3,d4⟩:=T2.two;clear hW0;go_wp2_with fail
 refine(HOF.out _ _ W0 (I1.out.ext (lx hB0)) (I2.out.ext (lx hB0))).mono ?_;rintro e w1 ⟨rv,rfl,⟨s5,a5,l5,k5,s6,a6,l6,k6,rfl,i5,i6⟩,hb1⟩;have I5:=xgv i5;have I6:=xgv i6;have T3:=T3.below hb1;have hB:=nx hB0 hb1;clear i5 i6 c1 c2 c3 c4 d1 d2 d3 d4;go_upto_region 2 with(fail)
 refine zB ?_;intro W2 hW2;obtain⟨hB2,T5,hs2⟩:=zK hW2;have T3:=T3.below hB2;have hB:=nx hB hB2;have I5:=xgv (I5.out.ext (lx hB2));have I6:=xgv (I6.out.ext (lx hB2));obtain⟨c1,c2,c3,c4,c5,c6,c7,c8⟩:=T5.four;obtain⟨r1,r2,r3,r4,r5,r6,r7,r8⟩:=T3.four;clear hW2;go_wp2;have hx:=T3.lext4 dE 0 (.bool s5) (.slice a5 l5 k5) (.bool s6) (.slice a6 l6 k6);exact qP rfl rfl rfl (T3.put4 _ _ _ _) ⟨_,_,_,_,_,_,_,_,rfl,I5.out.ext hx,I6.out.ext hx⟩ (jB hB oM 0 _ _ _ _)
theorem zCp(v:Value)(z:Int)(w:World)(h:zH w v z):Calls Tryz.prog 92 #[v] w (zAT w (z:Rat)):=by
 obtain⟨s1,a1,l1,k1,rfl⟩:=h.parts;have H:=xgv h;clear h;go_enter Tryz.func92,Tryz.ntmps92;go_upto_region 1 with(fail)
 refine zB ?_;intro W0 hW0;obtain⟨hB0,T1,T2,hs0⟩:=qH hW0;obtain⟨c1,c2,c3,c4⟩:=T1.two;clear hW0;refine zC 2 rfl (RV W0 _ [E 0 3 (.agg #[.bool s1,.slice a1 l1 k1]),EI 1 4 (1)]) kR RV.start (RV.fin kR ?fin1) ?steps1
 case steps1=>
  (repeat' constructor)<;>(intro L T wS hL hd hcl hI K hK;try refine zA rfl ?_)
  ·have zt:=hI.k 1 rfl kR
   have cc0:=hI.cell c1;have cc1:=hI.cell c2;exact xgu
  ·go_simp
   refine(zAH 1 _ dE dE).mono ?_;exact xgo
 intro w1 hbw1 T hT;simp only[Fin,E,EI,VP,VSl,VN,xgg,xgh,xgi,xgj]at hT;obtain⟨va1,ha1,rfl⟩:=hT;simp only[xgl,xgk];obtain⟨s,a,l,c,s',a',l',c',e1,rfl,hr⟩:=zI6 w1 (H.out.ext ((lx hB0).trans (lx hbw1))) (show zH _ _ _ from ha1);injection e1 with e1
 simp only[Array.mk.injEq,List.cons.injEq,and_true,Value.bool.injEq,Value.slice.injEq]at e1;obtain⟨rfl,rfl,rfl,rfl⟩:=e1;have HR:=xgv hr;have T2:=T2.below hbw1;have hB:=nx hB0 hbw1;obtain⟨r1,r2,r3,r4,r5,r6,r7,r8⟩:=T2.four;clear ha1 hr c1 c2 c3 c4;go_wp2;have hx:=T2.lext4 dE 0 (.bool s1) (.slice a1 l1 k1) (.bool s') (.slice a' l' c');exact qP rfl rfl rfl (T2.put4 _ _ _ _) (HR.out.ext hx) (jB hB oM 0 _ _ _ _)
theorem zB9(n:Int)(w:World)(h1:-9223372036854775808<=n)(h2:n<=9223372036854775807):Calls Tryz.prog 64 #[.int .i64 n] w (zAT w (n:Rat)):=by
 go_enter Tryz.func64,Tryz.ntmps64;go_upto_region 1 with(fail)
 refine zB ?_;intro W0 hW0;obtain⟨hB0,T1,hs0⟩:=zK hW0;clear hW0;go_wp2_with fail
 refine(zAH n W0 h1 h2).mono ?_;rintro e w1 ⟨u,rfl,hu,hb1⟩;have HU:=xgv hu;clear hu;go_wp2_with fail
 refine(zCp u n w1 HU.out).mono ?_;rintro e w2 ⟨rv,rfl,⟨s5,a5,l5,k5,s6,a6,l6,k6,rfl,i5,i6⟩,hb2⟩;have I5:=xgv i5;have I6:=xgv i6;have T1:=(T1.below hb1).below hb2;have hB:=nx (nx hB0 hb1) hb2;obtain⟨r1,r2,r3,r4,r5,r6,r7,r8⟩:=T1.four;clear i5 i6;go_wp2;have hx:=T1.lext4 dE 0 (.bool s5) (.slice a5 l5 k5) (.bool s6) (.slice a6 l6 k6);exact qP rfl rfl rfl (T1.put4 _ _ _ _) ⟨_,_,_,_,_,_,_,_,rfl,I5.out.ext hx,I6.out.ext hx⟩ (jB hB oM 0 _ _ _ _)
theorem zCL(n d:Int)(w:World)(h1:n.natAbs<2^62)(h2:d.natAbs<2^62)(h0:d≠0):Calls Tryz.prog 63 #[.int .i64 n,.int .i64 d] w (zAT w (Rat.divInt n d)):=by
 have HO:=xgv (fun(v1 v2:Value) (w:World) (k1:zH w v1 n) (k2:zH w v2 d)=>zEm v1 v2 n d w k1 k2 h1 h2 oM h0);have hn1:-9223372036854775808<=n:=by omega
 have hn2:n<=9223372036854775807:=by omega
 have hd1:-9223372036854775808<=d:=by omega
 have hd2:d<=9223372036854775807:=by omega
 clear h1 h2;go_enter Tryz.func63,Tryz.ntmps63;go_upto_region 3 with(fail)
 refine zB ?_;intro W0 hW0;obtain⟨hB0,T1,hs0⟩:=zK hW0;clear hW0;go_wp2_with fail
 refine(zAH n W0 hn1 hn2).mono ?_;rintro e w1 ⟨u,rfl,hu,hb1⟩;have HU:=xgv hu;clear hu;go_wp2_with fail
 refine(zAH d w1 hd1 hd2).mono ?_;rintro e w2 ⟨u2,rfl,hu2,hb2⟩;have HU2:=xgv hu2;clear hu2;go_wp2_with fail
 refine(HO.out u u2 w2 (HU.out.ext (lx hb2)) HU2.out).mono ?_;rintro e w3 ⟨rv,rfl,⟨s5,a5,l5,k5,s6,a6,l6,k6,rfl,i5,i6⟩,hb3⟩;have I5:=xgv i5;have I6:=xgv i6;have T1:=((T1.below hb1).below hb2).below hb3;have hB:=nx (nx (nx hB0 hb1) hb2) hb3;obtain⟨r1,r2,r3,r4,r5,r6,r7,r8⟩:=T1.four;clear i5 i6;go_wp2;have hx:=T1.lext4 dE 0 (.bool s5) (.slice a5 l5 k5) (.bool s6) (.slice a6 l6 k6);exact qP rfl rfl rfl (T1.put4 _ _ _ _) ⟨_,_,_,_,_,_,_,_,rfl,I5.out.ext hx,I6.out.ext hx⟩ (jB hB oM 0 _ _ _ _)
theorem zCa{e:Nat}(v:Value)(q:Rat)(w:World)(h:jN w v q)(hq:HQ e q)(he:e<=1000000):Calls Tryz.prog 78 #[v] w fun e w'=>∃u,e= .returned u/\u= .bool (isZ q)/\Below w.heap.size w w':=by
 obtain⟨s1,a1,l1,k1,s2,a2,l2,k2,rfl,i1,i2⟩:=h;dsimp only at i1 i2;obtain⟨b,hb⟩:∃b,isZ q=b:=⟨_,rfl⟩;obtain⟨k,hk⟩:∃k,qJ (q.den:Int) 1=k:=⟨_,rfl⟩;have HKB:qE ((k==0)=b):=⟨by
  rw[<-hb,<-hk];unfold isZ qJ;have:=q.den_nz;by_cases e:(q.den:Int)=1
  ·rw[e];rfl
  ·rw[decide_eq_false e]
   split
   ·rfl
   ·rw[if_pos oM];rfl⟩
 have hsd:Sm (q.den:Int):=qL (e:=e) (by rw[Int.natAbs_natCast];exact hq.2) he;have HC:qE (∀(v1 v2:Value) (w:World),zH w v1 (q.den:Int)->zH w v2 1->Calls Tryz.prog 170 #[v1,v2] w fun e w'=>∃v,e= .returned v/\v= .int .i64 k/\Below w.heap.size w w'):=⟨fun v1 v2 w h1 h2=>(zG8 v1 v2 _ 1 w h1 h2 hsd (Smd.one (z:=1) dE).sm).mono fun e w' ⟨x,y⟩=>⟨_,x,by rw[hk],y⟩⟩;have I2:=xgv i2;rw[hb];clear i1 i2 hk hb hsd hq;go_enter Tryz.func78,Tryz.ntmps78;go_upto_region 1 with(fail)
 refine zB ?_;intro W0 hW0;obtain⟨hB0,T1,hs0⟩:=zK hW0;obtain⟨c1,c2,c3,c4,c5,c6,c7,c8⟩:=T1.four;have I2:=xgv (I2.out.ext (lx hB0));clear hW0;refine zE rfl (RV W0 _ [VP 0 3 w.heap.size 2,E 1 4 (.agg #[.bool s2,.slice a2 l2 k2]),EI 2 5 (1),VN 3 6 k,E 4 7 (.bool b),E 5 2 (.bool b)]) kR RV.start (RV.fin kR ?fin2) ?steps2
 case steps2=>
  (repeat' constructor)<;>(intro L T wS hL hd hcl hI K hK;try refine zA rfl ?_)
  ·exact xgs (hI.k 1 rfl kR)
  ·have zt0:=hI.e mm0 (hd 0)
   have cc0:=hI.cell c3;have cc1:=hI.cell c4;exact xgu
  ·go_simp
   refine(zAH 1 _ dE dE).mono ?_;exact xgo
  ·have zt1:=hI.e mm1 (hd 1)
   obtain⟨v2,zt2,h2⟩:=hI.vi mm2 (hd 2);go_simp;refine(HC.out _ _ _ (I2.out.ext (lx hI.bel)) h2).mono ?_;rintro e wa ⟨v,rfl,hv,hba⟩;exact hK _ _ ((hI.world hba).y mm3 hv)
  ·have zt3:=hI.e mm3 (hd 3)
   have hkb:=HKB.out;exact xgu
  ·exact xgs (hI.e mm4 (hd 4))
 intro w1 hbw1 T hT;simp only[Fin,E,EI,VP,VSl,VN,xgg,xgh,xgi,xgj]at hT;obtain⟨va2,ha2,rfl⟩:=hT;go_wp2;go_ret;exact⟨_,rfl,rfl,nx hB0 hbw1⟩
theorem zHC{a b:Nat}(v1 v2:Value)(p q:Rat)(w:World)(h1:jN w v1 p)(h2:jN w v2 q)(hp:HQ a p)(hq:HQ b q)(hab:a+b+1<=1000000):Calls Tryz.prog 98 #[v1,v2] w (zAT w (p*q)):=by
 obtain⟨e1,e2,e3,e4,e5⟩:=HQ.ints hp hq;have hdp:((p.den:Int)).natAbs<2^a:=by rw[Int.natAbs_natCast];exact hp.2
 have hdq:((q.den:Int)).natAbs<2^b:=by rw[Int.natAbs_natCast];exact hq.2
 have HOF:qE (∀(v1 v2:Value) (w:World),zH w v1 (p.num*q.num)->zH w v2 ((p.den:Int)*q.den)->Calls Tryz.prog 148 #[v1,v2] w (zAT w (p*q))):=⟨fun v1 v2 w k1 k2=>by
  rw[zDc];exact zEm v1 v2 _ _ w k1 k2 e3 e4 oM (zDN p q)⟩
 have SM:=xgv (And.intro (qL hp.1 oM) (And.intro (qL hdp oM) (And.intro (qL hq.1 oM) (qL hdq oM))));obtain⟨s1,a1,l1,k1,s2,a2,l2,k2,rfl,i1,i2⟩:=h1;obtain⟨s3,a3,l3,k3,s4,a4,l4,k4,rfl,i3,i4⟩:=h2;dsimp only at i1 i2 i3 i4;obtain⟨pn,hpn⟩:∃z,p.num=z:=⟨_,rfl⟩;obtain⟨pd,hpd⟩:∃z:Int,(p.den:Int)=z:=⟨_,rfl⟩;obtain⟨qn,hqn⟩:∃z,q.num=z:=⟨_,rfl⟩;obtain⟨qd,hqd⟩:∃z:Int,(q.den:Int)=z:=⟨_,rfl⟩;rw[hpn,hqn,hpd,hqd]at HOF SM;rw[hpn]at i1;rw[hpd]at i2;rw[hqn]at i3;rw[hqd]at i4;have I1:=xgv i1;have I2:=xgv i2;have I3:=xgv i3;have I4:=xgv i4;clear i1 i2 i3 i4 e1 e2 e3 e4 e5 hdp hdq hp hq hpn hpd hqn hqd;go_enter Tryz.func98,Tryz.ntmps98;go_upto_region 1 with(fail)
 refine zB ?_;intro W0 hW0;obtain⟨hB0,T1,T2,T3,hs0⟩:=yO hW0;have I1:=xgv (I1.out.ext (lx hB0));have I2:=xgv (I2.out.ext (lx hB0));have I3:=xgv (I3.out.ext (lx hB0));have I4:=xgv (I4.out.ext (lx hB0));obtain⟨c1,c2,c3,c4,c5,c6,c7,c8⟩:=T1.four;obtain⟨d1,d2,d3,d4,d5,d6,d7,d8⟩:=T2.four;clear hW0;have hl1:=qY (p*q);refine zC 11 rfl (RV W0 _ [VP 0 5 w.heap.size 0,E 1 6 (.agg #[.bool s1,.slice a1 l1 k1]),VP 2 7 (w.heap.size+1) 0,E 3 8 (.agg #[.bool s3,.slice a3 l3 k3]),EI 4 9 (pn*qn),VP 5 10 w.heap.size 2,E 6 11 (.agg #[.bool s2,.slice a2 l2 k2]),VP 7 12 (w.heap.size+1) 2,E 8 13 (.agg #[.bool s4,.slice a4 l4 k4]),EI 9 14 (pd*qd),⟨10,15,fun w v=>jN w v (p*q)⟩]) kR RV.start (RV.fin kR ?fin3) ?steps3
 case steps3=>
  (repeat' constructor)<;>(intro L T wS hL hd hcl hI K hK;try refine zA rfl ?_)
  ·exact xgs (hI.k 2 rfl kR)
  ·have zt0:=hI.e mm0 (hd 0)
   have cc0:=hI.cell c1;have cc1:=hI.cell c2;exact xgu
  ·exact xgs (hI.k 3 rfl kR)
  ·have zt2:=hI.e mm2 (hd 2)
   have cc0:=hI.cell d1;have cc1:=hI.cell d2;exact xgu
  ·have zt1:=hI.e mm1 (hd 1)
   have zt3:=hI.e mm3 (hd 3);go_simp;refine(zAb _ _ pn qn _ (I1.out.ext (lx hI.bel)) (I3.out.ext (lx hI.bel)) SM.out.1 SM.out.2.2.1).mono ?_;exact xgo
  ·exact xgs (hI.k 2 rfl kR)
  ·have zt5:=hI.e mm5 (hd 5)
   have cc0:=hI.cell c3;have cc1:=hI.cell c4;exact xgu
  ·exact xgs (hI.k 3 rfl kR)
  ·have zt7:=hI.e mm7 (hd 7)
   have cc0:=hI.cell d3;have cc1:=hI.cell d4;exact xgu
  ·have zt6:=hI.e mm6 (hd 6)
   have zt8:=hI.e mm8 (hd 8);go_simp;refine(zAb _ _ pd qd _ (I2.out.ext (lx hI.bel)) (I4.out.ext (lx hI.bel)) SM.out.2.1 SM.out.2.2.2).mono ?_;exact xgo
  ·obtain⟨v4,zt4,h4⟩:=hI.v mm4 (hd 4)
   obtain⟨v9,zt9,h9⟩:=hI.v mm9 (hd 9);go_simp;refine(HOF.out _ _ _ h4 h9).mono ?_;rintro e wa ⟨v,rfl,hv,hba⟩;exact hK _ _ ((hI.world hba).y zAB hv)
 intro w1 hbw1 T hT;simp only[Fin,E,EI,VP,VSl,VN,xgg,xgh,xgi,xgj]at hT;obtain⟨va4,ha4,va9,ha9,va10,ha10,rfl⟩:=hT;simp only[xgl,xgk];obtain⟨s5,a5,l5,k5,s6,a6,l6,k6,rfl,i5,i6⟩:=(show jN _ _ _ from ha10);have I5:=xgv i5;have I6:=xgv i6;have T3:=T3.below hbw1;have hB:=nx hB0 hbw1;obtain⟨r1,r2,r3,r4,r5,r6,r7,r8⟩:=T3.four;clear i5 i6 c1 c2 c3 c4 c5 c6 c7 c8 d1 d2 d3 d4 d5 d6 d7 d8 ha4 ha9;go_wp2;have hx:=T3.lext4 dE 0 (.bool s5) (.slice a5 l5 k5) (.bool s6) (.slice a6 l6 k6);exact qP rfl rfl rfl (T3.put4 _ _ _ _) ⟨_,_,_,_,_,_,_,_,rfl,I5.out.ext hx,I6.out.ext hx⟩ (jB hB oM 0 _ _ _ _)
theorem zHB{a b:Nat}(v1 v2:Value)(p q:Rat)(w:World)(h1:jN w v1 p)(h2:jN w v2 q)(hp:HQ a p)(hq:HQ b q)(hab:a+b+1<=1000000):Calls Tryz.prog 171 #[v1,v2] w (zAT w (p+q)):=by
 obtain⟨e1,e2,e3,e4,e5⟩:=HQ.ints hp hq;have hdp:((p.den:Int)).natAbs<2^a:=by rw[Int.natAbs_natCast];exact hp.2
 have hdq:((q.den:Int)).natAbs<2^b:=by rw[Int.natAbs_natCast];exact hq.2
 have HOF:qE (∀(v1 v2:Value) (w:World),zH w v1 (p.num*q.den+q.num*p.den)->zH w v2 ((p.den:Int)*q.den)->Calls Tryz.prog 148 #[v1,v2] w (zAT w (p+q))):=⟨fun v1 v2 w k1 k2=>by
  rw[zDM];exact zEm v1 v2 _ _ w k1 k2 (zQD e1 e2) (zQj e4) oM (zDN p q)⟩
 have SM:=xgv (And.intro (qL hp.1 oM) (And.intro (qL hdp oM) (And.intro (qL hq.1 oM) (And.intro (qL hdq oM) (And.intro (qL e1 oM) (qL e2 oM))))));obtain⟨s1,a1,l1,k1,s2,a2,l2,k2,rfl,i1,i2⟩:=h1;obtain⟨s3,a3,l3,k3,s4,a4,l4,k4,rfl,i3,i4⟩:=h2;dsimp only at i1 i2 i3 i4;obtain⟨pn,hpn⟩:∃z,p.num=z:=⟨_,rfl⟩;obtain⟨pd,hpd⟩:∃z:Int,(p.den:Int)=z:=⟨_,rfl⟩;obtain⟨qn,hqn⟩:∃z,q.num=z:=⟨_,rfl⟩;obtain⟨qd,hqd⟩:∃z:Int,(q.den:Int)=z:=⟨_,rfl⟩;rw[hpn,hqn,hpd,hqd]at HOF SM;rw[hpn]at i1;rw[hpd]at i2;rw[hqn]at i3;rw[hqd]at i4;have I1:=xgv i1;have I2:=xgv i2;have I3:=xgv i3;have I4:=xgv i4;clear i1 i2 i3 i4 e1 e2 e3 e4 e5 hdp hdq hp hq hpn hpd hqn hqd;go_enter Tryz.func171,Tryz.ntmps171;go_upto_region 1 with(fail)
 refine zB ?_;intro W0 hW0;obtain⟨hB0,T1,T2,T3,hs0⟩:=yO hW0;have I1:=xgv (I1.out.ext (lx hB0));have I2:=xgv (I2.out.ext (lx hB0));have I3:=xgv (I3.out.ext (lx hB0));have I4:=xgv (I4.out.ext (lx hB0));obtain⟨c1,c2,c3,c4,c5,c6,c7,c8⟩:=T1.four;obtain⟨d1,d2,d3,d4,d5,d6,d7,d8⟩:=T2.four;have q1:=T1.lt;have q2:=T2.lt;clear hW0;refine zE rfl (RI W0 (W0.heap.size) _ 35
   [VP 0 6 w.heap.size 0,E 1 7 (.agg #[.bool s1,.slice a1 l1 k1]),VP 2 8 (w.heap.size+1) 2,E 3 9 (.agg #[.bool s4,.slice a4 l4 k4]),EI 4 10 (pn*qd),VP 5 11 (w.heap.size+1) 0,E 6 12 (.agg #[.bool s3,.slice a3 l3 k3]),VP 7 13 w.heap.size 2,E 8 14 (.agg #[.bool s2,.slice a2 l2 k2]),EI 9 15 (qn*pd),EI 10 16 (pn*qd+qn*pd)] [⟨11,5,12,fun w v=>zH w v (pn*qd+qn*pd)⟩] []) kR RI.start ?fin1 ?steps1
 case steps1=>
  (repeat' constructor)<;>(intro L T wS hL hd hcl hI K hK;try refine zA rfl ?_)
  ·exact xgs (hI.k 2 rfl kR)
  ·have zt0:=hI.e mm0 (hd 0)
   have cc0:=hI.cell c1 oM nom;have cc1:=hI.cell c2 oM nom;exact xgu
  ·exact xgs (hI.k 3 rfl kR)
  ·have zt2:=hI.e mm2 (hd 2)
   have cc0:=hI.cell d3 oM nom;have cc1:=hI.cell d4 oM nom;exact xgu
  ·have zt1:=hI.e mm1 (hd 1)
   have zt3:=hI.e mm3 (hd 3);go_simp;refine(zAb _ _ pn qd _ (I1.out.ext hI.lext) (I4.out.ext hI.lext) SM.out.1 SM.out.2.2.2.1).mono ?_;exact xgo
  ·exact xgs (hI.k 3 rfl kR)
  ·have zt5:=hI.e mm5 (hd 5)
   have cc0:=hI.cell d1 oM nom;have cc1:=hI.cell d2 oM nom;exact xgu
  ·exact xgs (hI.k 2 rfl kR)
  ·have zt7:=hI.e mm7 (hd 7)
   have cc0:=hI.cell c3 oM nom;have cc1:=hI.cell c4 oM nom;exact xgu
  ·have zt6:=hI.e mm6 (hd 6)
   have zt8:=hI.e mm8 (hd 8);go_simp;refine(zAb _ _ qn pd _ (I3.out.ext hI.lext) (I2.out.ext hI.lext) SM.out.2.2.1 SM.out.2.1).mono ?_;exact xgo
  ·obtain⟨v4,zt4,h4⟩:=hI.vi mm4 (hd 4)
   obtain⟨v9,zt9,h9⟩:=hI.vi mm9 (hd 9);go_simp;refine(zB7 _ _ (pn*qd) (qn*pd) _ h4 h9 SM.out.2.2.2.2.1 SM.out.2.2.2.2.2).mono ?_;exact xgo
  ·go_simp
   exact hK _ _ (hI.alloc ⟨11,5,12,_⟩ mm0 rfl hL)
  ·obtain⟨v,t1,hv⟩:=hI.vi zAB (hd 10)
   obtain⟨b,x,y,t2,hb1,hb2,-⟩:=hI.box _ mm0 (hd 11);obtain⟨vneg,vao,vlen,vcap,vls,rfl,hv'⟩:=id hv;have HT:=xgw t2;unfold ptr at t2;obtain⟨k1,k2,k3,k4⟩:=hb2.two;go_simp;exact hK _ _ (hI.store ⟨11,5,12,_⟩ mm0 rfl (hd 11) HT.out hv)
 intro T w1 hI;have hT:=hI.finx kR kR;have hlw1:=hI.lext;have hbw1:=hI.bel (W0.heap.size) oM nom;have holdw1:=hI.old;clear hI;simp only[zEN,zD7,E,EI,ptr,xgm,List.not_mem_nil,false_implies,implies_true,and_true,true_and,xgg,xgh,xgi,xgj]at hT;obtain⟨va4,ha4,va9,ha9,va10,ha10,ca11,xa11,ya11,ga11,ka11,ia11,rfl⟩:=hT;have z5:=jU.mk ka11 ia11;obtain⟨s5,a5,l5,k5,T5,i5⟩:=id z5;have I5:=xgv i5;have T1:=T1.below hbw1;have T2:=T2.below hbw1;have T3:=T3.below hbw1;have hB:=nx hB0 hbw1;have I2:=xgv (I2.out.ext (lx hbw1));have I4:=xgv (I4.out.ext (lx hbw1));clear c1 c2 c3 c4 c5 c6 c7 c8 d1 d2 d3 d4 d5 d6 d7 d8 ha4 ha9 ha10 ka11 ia11 z5 i5;obtain⟨c1,c2,c3,c4,c5,c6,c7,c8⟩:=T1.four;obtain⟨d1,d2,d3,d4,d5,d6,d7,d8⟩:=T2.four;obtain⟨f1,f2,f3,f4⟩:=T5.two;have hl1:=qY (p+q);go_upto_region 2 with(fail)
 refine zC 7 rfl (RV w1 _ [E 0 17 (.agg #[.bool s5,.slice a5 l5 k5]),VP 1 18 w.heap.size 2,E 2 19 (.agg #[.bool s2,.slice a2 l2 k2]),VP 3 20 (w.heap.size+1) 2,E 4 21 (.agg #[.bool s4,.slice a4 l4 k4]),EI 5 22 (pd*qd),⟨6,23,fun w v=>jN w v (p+q)⟩]) kR RV.start (RV.fin kR ?fin2) ?steps2
 case steps2=>
  (repeat' constructor)<;>(intro L T wS hL hd hcl hI K hK;try refine zA rfl ?_)
  ·have zt:=hI.k 5 rfl kR
   have cc0:=hI.cell f1;have cc1:=hI.cell f2;exact xgu
  ·exact xgs (hI.k 2 rfl kR)
  ·have zt1:=hI.e mm1 (hd 1)
   have cc0:=hI.cell c3;have cc1:=hI.cell c4;exact xgu
  ·exact xgs (hI.k 3 rfl kR)
  ·have zt3:=hI.e mm3 (hd 3)
   have cc0:=hI.cell d3;have cc1:=hI.cell d4;exact xgu
  ·have zt2:=hI.e mm2 (hd 2)
   have zt4:=hI.e mm4 (hd 4);go_simp;refine(zAb _ _ pd qd _ (I2.out.ext (lx hI.bel)) (I4.out.ext (lx hI.bel)) SM.out.2.1 SM.out.2.2.2.1).mono ?_;exact xgo
  ·obtain⟨_,zt0,rfl⟩:=hI.v mm0 (hd 0)
   obtain⟨v5,zt5,h5⟩:=hI.v mm5 (hd 5);go_simp;refine(HOF.out _ _ _ (I5.out.ext (lx hI.bel)) h5).mono ?_;rintro e wa ⟨v,rfl,hv,hba⟩;exact hK _ _ ((hI.world hba).y mm6 hv)
 intro w2 hbw2 T hT;simp only[Fin,E,EI,VP,VSl,VN,xgg,xgh,xgi,xgj]at hT;obtain⟨vb5,hb5,vb6,hb6,rfl⟩:=hT;simp only[xgl,xgk];obtain⟨s6,a6,l6,k6,s7,a7,l7,k7,rfl,i6,i7⟩:=(show jN _ _ _ from hb6);have I6:=xgv i6;have I7:=xgv i7;have T3:=T3.below hbw2;have hB:=nx hB hbw2;obtain⟨r1,r2,r3,r4,r5,r6,r7,r8⟩:=T3.four;clear i6 i7 c1 c2 c3 c4 c5 c6 c7 c8 d1 d2 d3 d4 d5 d6 d7 d8 f1 f2 f3 f4 hb5;go_wp2;have hx:=T3.lext4 dE 0 (.bool s6) (.slice a6 l6 k6) (.bool s7) (.slice a7 l7 k7);exact qP rfl rfl rfl (T3.put4 _ _ _ _) ⟨_,_,_,_,_,_,_,_,rfl,I6.out.ext hx,I7.out.ext hx⟩ (jB hB oM 0 _ _ _ _)
theorem zID{e:Nat}(v:Value)(p:Int × Int)(w:World)(h:jM w v p)(s1:p.1.natAbs<2^e)(s2:p.2.natAbs<2^e)(he:e<=1000000):Calls Tryz.prog 168 #[v] w fun e w'=>∃u,e= .returned u/\u= .bool (zGV p)/\Below w.heap.size w w':=by
 obtain⟨n,d⟩:=p;obtain⟨n1,a1,l1,k1,n2,a2,l2,k2,rfl,i1,i2⟩:=h;dsimp only at i1 i2 s1 s2;obtain⟨b,hb⟩:∃b,zGV (n,d)=b:=⟨_,rfl⟩;obtain⟨k,hk⟩:∃k,qJ d 0=k:=⟨_,rfl⟩;have HK:qE (k<1↔d<=0):=⟨by rw[<-hk];unfold qJ;split<;>(try split)<;>omega⟩;have HSG:qE (∀(v:Value) (w:World),zH w v d->Calls Tryz.prog 132 #[v] w fun e w'=>e= .returned (.int .i64 k)/\Below w.heap.size w w'):=⟨fun v w hv=>hk ▸ zA0 v d w hv⟩;obtain⟨g,hg⟩:∃g:Int,((Int.gcd n d:Nat):Int)=g:=⟨_,rfl⟩;have HGC:qE (∀(v1 v2:Value) (w:World),zH w v1 n->zH w v2 d->Calls Tryz.prog 235 #[v1,v2] w (jL w g)):=⟨fun v1 v2 w k1 k2=>hg ▸ zHA v1 v2 n d w k1 k2 (zBx s1 he) (zBx s2 he)⟩;obtain⟨m,hm⟩:∃m,qJ g 1=m:=⟨_,rfl⟩;have hgs:Sm g:=by
  rw[<-hg];by_cases h0:d=0
  ·rw[h0]
   exact qL (e:=e) (by rw[Int.natAbs_natCast,Int.gcd_zero_right];exact s1) he
  ·exact qL (e:=e) (by
    rw[Int.natAbs_natCast];exact Nat.lt_of_le_of_lt (Nat.le_of_dvd oM (by simpa using Int.natAbs_dvd_natAbs.2 (Int.gcd_dvd_right n d))) s2) he
 have HC:qE (∀(v1 v2:Value) (w:World),zH w v1 g->zH w v2 1->Calls Tryz.prog 170 #[v1,v2] w fun e w'=>e= .returned (.int .i64 m)/\Below w.heap.size w w'):=⟨fun v1 v2 w h1 h2=>hm ▸ zG8 v1 v2 _ 1 w h1 h2 hgs (Smd.one (z:=1) dE).sm⟩;have HB0:qE (d<=0->b=false):=⟨fun h=>by rw[<-hb];unfold zGV;exact decide_eq_false fun h2=>by have:=h2.1;dsimp only at this;omega⟩;have HB1:qE (¬ d<=0->(m==0)=b):=⟨fun h=>by
  rw[<-hb,<-hm,<-hg];unfold zGV qJ;by_cases e:Int.gcd n d=1
  ·rw[decide_eq_true (show 0<(n,d).2/\Int.gcd (n,d).1 (n,d).2=1 from⟨by dsimp only;omega,e⟩),e];rfl
  ·rw[decide_eq_false fun h2=>e h2.2]
   split
   ·rfl
   ·rw[if_pos oM];rfl⟩
 have I1:=xgv i1;have I2:=xgv i2;rw[hb];clear i1 i2 hk hb hg hm s1 s2 hgs;go_enter Tryz.func168,Tryz.ntmps168;go_upto_region 1 with(fail)
 refine zB ?_;intro W0 hW0;obtain⟨hB0,T1,hs0⟩:=zK hW0;obtain⟨c1,c2,c3,c4,c5,c6,c7,c8⟩:=T1.four;have I1:=xgv (I1.out.ext (lx hB0));have I2:=xgv (I2.out.ext (lx hB0));clear hW0;go_wp2_with fail
 refine(zCo _ _ W0 I1.out).mono ?_;rintro e w1 ⟨rfl,hb1⟩;have T1:=T1.below hb1;have I1:=xgv (I1.out.ext (lx hb1));have I2:=xgv (I2.out.ext (lx hb1));have hB:=nx hB0 hb1;clear c1 c2 c3 c4 c5 c6 c7 c8;obtain⟨c1,c2,c3,c4,c5,c6,c7,c8⟩:=T1.four;go_wp2_with fail
 refine(zCo _ _ w1 I2.out).mono ?_;rintro e w2 ⟨rfl,hb2⟩;have T1:=T1.below hb2;have I1:=xgv (I1.out.ext (lx hb2));have I2:=xgv (I2.out.ext (lx hb2));have hB:=nx hB hb2;clear c1 c2 c3 c4 c5 c6 c7 c8;obtain⟨c1,c2,c3,c4,c5,c6,c7,c8⟩:=T1.four;go_wp2_with fail
 refine(HSG.out _ w2 I2.out).mono ?_;rintro e w3 ⟨rfl,hb3⟩;have T1:=T1.below hb3;have I1:=xgv (I1.out.ext (lx hb3));have I2:=xgv (I2.out.ext (lx hb3));have hB:=nx hB hb3;clear c1 c2 c3 c4 c5 c6 c7 c8;obtain⟨c1,c2,c3,c4,c5,c6,c7,c8⟩:=T1.four;by_cases hd:d<=0
 ·have hkk:=HK.out.2 hd
  have hbf:=HB0.out hd;clear HK HB0 HB1;subst hbf;go_wp2;go_ret;exact⟨_,rfl,rfl,hB⟩
 ·have hkk:¬ k<1:=fun h=>hd (HK.out.1 h)
  have hbt:=HB1.out oM;clear HK HB0 HB1 hd;go_wp2_with fail
  refine(HGC.out _ _ w3 I1.out I2.out).mono ?_;rintro e w4 ⟨gv,rfl,hgv,hb4⟩;obtain⟨gs,ga,gl,gc,rfl⟩:=hgv.parts;have HG:=xgv hgv;have hB:=nx hB hb4;clear hgv;go_wp2_with fail
  refine(zAH 1 w4 dE dE).mono ?_;rintro e w5 ⟨o,rfl,ho,hb5⟩;have hB:=nx hB hb5;go_wp2_with fail
  refine(HC.out _ _ w5 (HG.out.ext (lx hb5)) ho).mono ?_;rintro e w6 ⟨rfl,hb6⟩;go_wp2;go_ret;exact⟨_,rfl,rfl,nx hB hb6⟩
def zAC(n:Nat)(f:Nat->Int × Int):List (Int × Int):=(List.range n).map f
theorem qG(n:Nat)(f:Nat->Int × Int):(zAC n f).length=n:=by simp[zAC]
theorem zAj{n k:Nat}{f:Nat->Int × Int}(h:k<n):(zAC n f)[k]?=some (f k):=by simp[zAC,h]
theorem zAf{n:Nat}{f g:Nat->Int × Int}(h:∀k,k<n->f k=g k):zAC n f=zAC n g:=List.map_congr_left fun k hk=>h k (by simpa using hk)
theorem zIh{n k:Nat}{f:Nat->Int × Int}{p:Int × Int}:(zAC n f).set k p=zAC n fun i=>if i=k then p else f i:=by
 refine List.ext_getElem? fun i=>?_
 by_cases hi:i<n
 ·rw[zAj hi]
  by_cases e:i=k
  ·subst e
   rw[List.getElem?_set_self (by rw[qG];exact hi),if_pos rfl]
  ·rw[List.getElem?_set_ne (Ne.symm e),zAj hi,if_neg e]
 ·rw[List.getElem?_eq_none (by rw[List.length_set,qG];omega),List.getElem?_eq_none (by rw[qG];omega)]
def prQ(q:Rat):Int × Int:=(q.num,(q.den:Int))
def zL5(n:Nat):Array Value:=madeCells (Value.agg #[.bool false,.slice none 0 0,.bool false,.slice none 0 0]).cells (n*4)
theorem mkQ(m:Int)(n:Nat)(hm:m=n)(h:n<=1099511627776)(W:World):
  (Instr.makeSlice 37 (.int .i64 m) (.int .i64 m)).run Tryz.prog W= .ok (.slice (some ⟨W.heap.size,0,none⟩) n n) (W.alloc (.cells (zL5 n) tQ)):=by
 subst hm;obtain⟨i0,hi,hz0,hz1,hz2⟩:=info_parts Tryz.infoQ;have:=zAd (P:=Tryz.prog) 37 tQ i0 _ Tryz.underlying37 hi hz0 .i64 .i64 n n (xgf _) (by rw[hz2];omega) oM W;rw[this,hz1];rfl
theorem zI2(w:World)(n:Nat):zAS (w.alloc (.cells (zL5 n) tQ)) w.heap.size (zAC n fun _=>(0,0)):=by
 refine⟨zL5 n,heap_alloc_new w _,fun k p hk=>?_⟩;have hkn:k<n:=by
  have:=(xge.1 hk).1;rwa[qG]at this
 rw[zAj hkn]at hk;injection hk with hk
 subst hk;have hc:∀j,j<n*4->(zL5 n).toList[j]?=some ((#[Value.bool false,.slice none 0 0,.bool false,.slice none 0 0]:Array Value).getD (j%4) undef):=fun j hj=>by
  unfold zL5 madeCells;rcases(by omega:j%4=0∨j%4=1∨j%4=2∨j%4=3)with h|h|h|h<;>simp[Value.cells,hj,h]
 refine⟨false,none,0,0,false,none,0,0,?_,?_,?_,?_,zAD _,zAD _⟩
 ·rw[hc _ oM,show k*4%4=0 by omega];rfl
 ·rw[hc _ oM,show(k*4+1)%4=1 by omega];rfl
 ·rw[hc _ oM,show(k*4+2)%4=2 by omega];rfl
 ·rw[hc _ oM,show(k*4+3)%4=3 by omega];rfl
theorem zAS.set{w:World}{b:Nat}{ps:List (Int × Int)}(h:zAS w b ps){k:Nat}(hk:k<ps.length){s s':Bool}{a a':Option Addr}{l c l' c':Nat}{p:Int × Int}(h1:zH w (.agg #[.bool s,.slice a l c]) p.1)(h2:zH w (.agg #[.bool s',.slice a' l' c']) p.2):
  zAS ((((w.setCell ⟨b,k*4,none⟩ (.bool s)).setCell ⟨b,k*4+1,none⟩ (.slice a l c)).setCell ⟨b,k*4+2,none⟩ (.bool s')).setCell ⟨b,k*4+3,none⟩ (.slice a' l' c')) b (ps.set k p)∧
   yI w ((((w.setCell ⟨b,k*4,none⟩ (.bool s)).setCell ⟨b,k*4+1,none⟩ (.slice a l c)).setCell ⟨b,k*4+2,none⟩ (.bool s')).setCell ⟨b,k*4+3,none⟩ (.slice a' l' c')):=by
 obtain⟨cs,g1,g2⟩:=h;have hB:Blk w b tQ cs:=g1;have hx:=hB.lext4 dE (k*4) (.bool s) (.slice a l c) (.bool s') (.slice a' l' c');have hlen:k*4+4<=cs.size:=by
  obtain⟨_,_,_,_,_,_,_,_,-,-,-,q,-⟩:=g2 k _ (xga hk);have:=(xge.1 q).1;simp at this;omega
 refine⟨⟨(((cs.setIfInBounds (k*4) (.bool s)).setIfInBounds (k*4+1) (.slice a l c)).setIfInBounds (k*4+2) (.bool s')).setIfInBounds (k*4+3) (.slice a' l' c'),(((hB.set_ _ _).set_ _ _).set_ _ _).set_ _ _,fun j q hj=>?_⟩,hx⟩;have hget:∀i,i<cs.size->((((cs.setIfInBounds (k*4) (.bool s)).setIfInBounds (k*4+1) (.slice a l c)).setIfInBounds (k*4+2) (.bool s')).setIfInBounds (k*4+3) (.slice a' l' c')).toList[i]?=if i=k*4 then some (.bool s)else if i=k*4+1 then some (.slice a l c)else if i=k*4+2 then some (.bool s')else if i=k*4+3 then some (.slice a' l' c')else cs.toList[i]?:=fun i hi=>by
  simp only[Array.getElem?_toList];by_cases e3:i=k*4+3
  ·subst e3
   rw[Array.getElem?_setIfInBounds_self_of_lt (by simp;omega),if_neg oM,if_neg oM,if_neg oM,if_pos rfl]
  ·rw [xgc (Ne.symm e3)]
   by_cases e2:i=k*4+2
   ·subst e2
    rw[Array.getElem?_setIfInBounds_self_of_lt (by simp;omega),if_neg oM,if_neg oM,if_pos rfl]
   ·rw[xgc (Ne.symm e2)]
    by_cases e1:i=k*4+1
    ·subst e1
     rw[Array.getElem?_setIfInBounds_self_of_lt (by simp;omega),if_neg oM,if_pos rfl]
    ·rw[xgc (Ne.symm e1)]
     by_cases e0:i=k*4
     ·subst e0
      rw[Array.getElem?_setIfInBounds_self_of_lt oM,if_pos rfl]
     ·rw[xgc (Ne.symm e0),if_neg e0,if_neg e1,if_neg e2,if_neg e3]
 by_cases e:j=k
 ·subst e
  rw[List.getElem?_set_self hk]at hj;injection hj with hj
  subst hj;refine⟨s,a,l,c,s',a',l',c',?_,?_,?_,?_,h1.ext hx,h2.ext hx⟩
  ·rw[hget _ oM,if_pos rfl]
  ·rw[hget _ oM,if_neg oM,if_pos rfl]
  ·rw[hget _ oM,if_neg oM,if_neg oM,if_pos rfl]
  ·rw[hget _ oM,if_neg oM,if_neg oM,if_neg oM,if_pos rfl]
 ·rw[List.getElem?_set_ne (Ne.symm e)]at hj
  obtain⟨s0,a0,l0,c0,s1,a1,l1,c1,f1,f2,f3,f4,f5,f6⟩:=g2 j q hj;have b4:=(xge.1 f4).1;simp at b4;refine⟨s0,a0,l0,c0,s1,a1,l1,c1,?_,?_,?_,?_,f5.ext hx,f6.ext hx⟩<;>(rw[hget _ oM,if_neg oM,if_neg oM,if_neg oM,if_neg oM];assumption)
theorem zAS.prs{w:World}{b n cap:Nat}{ps:List (Int × Int)}(h:zAS w b ps)(h1:ps.length=n)(h2:n<=cap)(h3:cap<=9223372036854775807):jY w (.slice (some ⟨b,0,none⟩) n cap) ps:=⟨_,n,cap,rfl,h1,h2,h3,fun _=>⟨b,rfl,h⟩⟩
def zCt(f g:Nat->Int × Int)(j:Nat):Nat->Int × Int:=fun t=>if t<j then f t else g t
theorem zHY{n j:Nat}(f g:Nat->Int × Int):(zAC n (zCt f g j)).set j (f j)=zAC n (zCt f g (j+1)):=by
 rw[zIh];refine zAf fun t _=>?_
 unfold zCt;by_cases h2:t=j
 ·rw[if_pos h2,if_pos oM,h2]
 ·rw[if_neg h2]
  by_cases h3:t<j
  ·rw[if_pos h3,if_pos oM]
  ·rw[if_neg h3,if_neg oM]
theorem zIy{e:Nat}(b o n c:Nat)(zs:List Int)(f:Nat->Int)(dv:Value)(d:Int)(w:World)(hr:qC w b zs)(hz:∀k,k<n->zs[o+k]?=some (f k))(hd:zH w dv d)(h0:d≠0)(he:e<=1000000)(hde:d.natAbs<2^e)(hfe:∀k,k<n->(f k).natAbs<2^e)(hn:n<=1000000):
  Calls Tryz.prog 231 #[.slice (some ⟨b,o*2,none⟩) n c,dv] w fun e w'=>∃g,e= .returned (.slice (some ⟨g,0,none⟩) n n)/\w.heap.size<=g/\zAS w' g (zAC n fun k=>prQ (Rat.divInt (f k) d))/\Below w.heap.size w w':=by
 obtain⟨dn,da,dl,dc,rfl⟩:=hd.parts;have HR:=xgv hr;have HZ:=xgv hz;have HD:=xgv hd;have HOF:qE (∀(v1 v2:Value) (k:Nat) (w:World),k<n->zH w v1 (f k)->zH w v2 d->Calls Tryz.prog 232 #[v1,v2] w fun e w'=>∃v,e= .returned (.tuple #[v,.int .i64 0])/\jN w' v (Rat.divInt (f k) d)/\Below w.heap.size w w'):=⟨fun v1 v2 k w hk k1 k2=>zLb v1 v2 (f k) d w k1 k2 (qL (hfe k hk) he) (qL hde he) h0⟩;obtain⟨F,hF⟩:∃F:Nat->Int × Int,(fun k=>prQ (Rat.divInt (f k) d))=F:=⟨_,rfl⟩;have HFE:qE (∀k,F k=prQ (Rat.divInt (f k) d)):=⟨fun k=>by rw[<-hF]⟩;rw[hF];have hmk:=fun W=>mkQ (n:Int) n rfl oM W
 clear hr hz hd h0 he hde hfe hF;go_enter Tryz.func231,Tryz.ntmps231;go_upto_region 1 with(fail)
 refine zB ?_;intro W0 hW0;obtain⟨hB0,T3,hs0⟩:=zK hW0;clear hW0;go_upto_region 2 with(fail)
 refine zB ?_;intro W1 hW1;have hb1:Below W0.heap.size W0 W1:=by rw[hW1.out];exact(Below.refl _ _).alloc (xgf _) _
 have hp:zAS W1 W0.heap.size (zAC n (zCt F (fun _=>(0,0)) 0)):=by
  rw[hW1.out,show zAC n (zCt F (fun _=>(0,0)) 0)=zAC n fun _=>(0,0) from zAf fun k _=>by unfold zCt;rw[if_neg oM]];exact zI2 W0 n
 have hB:=nx hB0 hb1;have T3:=T3.below hb1;have q0:=hB0.size;clear hW1;obtain⟨g,hg⟩:∃g,W0.heap.size=g:=⟨_,rfl⟩;rw[hg]at hp q0 hs0 ⊢
 clear hg hb1;go_wp2;go_loopw [13] (fun iv wr=>∃i:Nat,i<=n/\iv= .int .i64 i/\Below w.heap.size w wr/\Blk wr w.heap.size 35 #[.bool dn,.slice da dl dc]/\zAS wr g (zAC n (zCt F (fun _=>(0,0)) i))) (fun iv _=>n-(intOf iv).toNat)
 case atStart=>exact⟨0,by omega,rfl,hB,T3,hp⟩
 case round=>
  clear hB T3 hp;obtain⟨i,hi,rfl,hB,T3,hp⟩:=hrel;by_cases hlt:i<n
  ·have hrw:=HR.out.below hB
   obtain⟨s1,a1,l1,k1,p1,p2,-,-,hv⟩:=hrw.cell (HZ.out i hlt);have V:=xgv hv;have HDW:=xgv (HD.out.ext (lx hB));have hoff:(o+i)*2=o*2+i*2:=by omega
   rw[hoff]at p1 p2;clear hv hrw hoff;go_upto_region 5 with(fail)
   refine zB ?_;intro W2 hW2;obtain⟨hB2,T7,hs2⟩:=zK hW2;have T3:=T3.below hB2;have hp:=hp.below hB2;have hB:=nx hB hB2;obtain⟨c1,c2,c3,c4⟩:=T7.two;obtain⟨d1,d2,d3,d4⟩:=T3.two;clear hW2 p1 p2;go_wp2_with fail
   refine(HOF.out _ _ i W2 hlt (V.out.ext (lx hB2)) (HDW.out.ext (lx hB2))).mono ?_;rintro e' w3 ⟨rv,rfl,⟨s5,a5,l5,k5,s6,a6,l6,k6,rfl,i5,i6⟩,hb3⟩;have I5:=xgv i5;have I6:=xgv i6;have T3:=T3.below hb3;have hp:=hp.below hb3;have hB:=nx hB hb3;have ltg:=hp.lt;obtain⟨_,_,_,_,_,_,_,_,e1,e2,e3,e4,e5,-⟩:=hp.cell (zAj hlt);have e6:=e5 (i*4);have e7:=e5 (i*4+1);have e8:=e5 (i*4+2);have e9:=e5 (i*4+3);have hset:=hp.set (k:=i) (p:=prQ (Rat.divInt (f i) d)) (by rw[qG];exact hlt) I5.out I6.out;rw[<-HFE.out,zHY]at hset;have HSET:=xgv hset;clear i5 i6 hset e5 c1 c2 c3 c4 d1 d2 d3 d4;go_wp2;go_roundw
   case rel=>exact⟨i+1,by omega,by simp,jB hB oM _ _ _ _ _,(zDG _ _ _ _ _ _ _ _ oM).trans T3,HSET.out.1⟩
   case measure=>simp[intOf];omega
  ·obtain rfl:i=n:=by omega
   rw[show zAC i (zCt F (fun _=>(0,0)) i)=zAC i F from zAf fun k hk=>by unfold zCt;rw[if_pos hk]]at hp;go_wp2;go_ret;exact⟨g,rfl,by omega,hp,hB⟩
def jK:Nat->(Nat->Rat)->Rat
 |0,_=>0
 |n+1,f=>jK n f+f n
theorem qI{n:Nat}{f g:Nat->Rat}(h:∀i,i<n->f i=g i):jK n f=jK n g:=by
 induction n with
 |zero=>rfl
 |succ n ih=>show _+_=_+_;rw[ih fun i hi=>h i oM,h n oM]
theorem zCE{n:Nat}{f:Nat->Rat}(h:∀i,i<n->f i=0):jK n f=0:=by
 induction n with
 |zero=>rfl
 |succ n ih=>show _+_=_;rw[ih fun i hi=>h i oM,h n oM];exact Rat.add_zero 0
theorem zEI{n k:Nat}{f:Nat->Rat}(hk:k<n)(h:∀i,i<n->i≠k->f i=0):jK n f=f k:=by
 induction n with
 |zero=>omega
 |succ n ih=>
  show _+_=_;by_cases e:k=n
  ·subst e;rw[zCE fun i hi=>h i oM oM];grind
  ·rw[ih oM fun i hi he=>h i oM he,h n oM oM];grind
theorem zGQ{n:Nat}(a b:Rat)(f g:Nat->Rat):jK n (fun i=>a*f i+b*g i)=a*jK n f+b*jK n g:=by
 induction n with
 |zero=>show(0:Rat)=a*0+b*0;grind
 |succ n ih=>show _+_=a*(_+_)+b*(_+_);rw[ih];grind
theorem zJF{n m:Nat}(f:Nat->Rat):jK (n+m) f=jK n f+jK m (fun i=>f (n+i)):=by
 induction m with
 |zero=>show _=_+(0:Rat);grind
 |succ m ih=>show jK (n+m) f+f (n+m)=_+(_+_);rw[ih];grind
theorem zHS{n m:Nat}(f:Nat->Nat->Rat):jK n (fun i=>jK m (f i))=jK m (fun j=>jK n fun i=>f i j):=by
 induction n with
 |zero=>exact(zCE fun i hi=>rfl).symm
 |succ n ih=>
  show _+_=_;rw[ih];have:=zGQ (n:=m) 1 1 (fun j=>jK n fun i=>f i j) (f n);have h2:(jK m fun j=>jK (n+1) fun i=>f i j)=jK m fun i=>1*(jK n fun i'=>f i' i)+1*f n i:=qI fun i hi=>by show _+_=_;grind
  rw[h2,this];grind
theorem zBN{n:Nat}(a:Rat)(f:Nat->Rat):jK n (fun i=>a*f i)=a*jK n f:=by
 have:=zGQ (n:=n) a 0 f f;rw[<-qI (f:=fun i=>a*f i+0*f i) fun i hi=>by grind,this];grind
structure BE where
 E:Nat->Nat->Int
 last:Int
 odd:Bool
 pv:List Nat
def yR(P:Nat->Bool):Nat->Nat->Nat
 |i,0=>i
 |i,f+1=>if P i=true then i else yR P (i+1) f
theorem zBG(P:Nat->Bool)(i f:Nat):i<=yR P i f/\yR P i f<=i+f:=by
 induction f generalizing i with
 |zero=>exact⟨xgf _,xgf _⟩
 |succ f ih=>
  unfold yR;split
  ·omega
  ·have:=ih (i+1);omega
theorem zBF(P:Nat->Bool)(i f:Nat)(h:yR P i f<i+f):P (yR P i f)=true:=by
 induction f generalizing i with
 |zero=>unfold yR at h;omega
 | succ f ih=>
  unfold yR at h ⊢
  split
  ·assumption
  ·rename_i hn
   rw[if_neg hn]at h;exact ih (i+1) oM
theorem zC0(P:Nat->Bool)(i f j:Nat)(h1:i<=j)(h2:j<yR P i f):P j=false:=by
 induction f generalizing i with
 |zero=>unfold yR at h2;omega
 | succ f ih=>
  unfold yR at h2;split at h2
  ·omega
  ·rename_i hn
   by_cases e:j=i
   ·subst e;simpa using hn
   ·exact ih (i+1) oM h2
theorem zB2{P:Nat->Bool}{i f k:Nat}(h1:i<=k)(h2:k<i+f)(h3:P k=true)(h4:∀j,i<=j->j<k->P j=false):yR P i f=k:=by
 have h5:=zBG P i f;rcases Nat.lt_trichotomy (yR P i f) k with h|h|h
 ·have:=zBF P i f oM
  rw[h4 _ h5.1 h]at this;cases this
 ·exact h
 ·have:=zC0 P i f k h1 h
  rw[h3]at this;cases this
def bx(E:Nat->Nat->Int)(i k:Nat):Nat->Nat->Int:=fun a=>if a=i then E k else if a=k then E i else E a
def yP(E:Nat->Nat->Int)(k c:Nat)(q:Int):Nat->Nat->Int:=fun i j=>if i=k then E i j else(E k c*E i j-E i c*E k j)/q
def zEw(n c:Nat)(s:BE):Nat:=yR (fun i=>decide (s.E i c≠0)) s.pv.length (n-s.pv.length)
def zGd(n c:Nat)(s:BE):BE:=
 if s.pv.length<n/\zEw n c s<n then⟨yP (bx s.E (zEw n c s) s.pv.length) s.pv.length c s.last,bx s.E (zEw n c s) s.pv.length s.pv.length c,s.odd^^decide (zEw n c s≠s.pv.length),s.pv++ [c]⟩else s
def zAi(n:Nat)(E:Nat->Nat->Int):Nat->BE
 |0=>⟨E,1,false,[]⟩
 |c+1=>zGd n c (zAi n E c)
def Sol(n m:Nat)(E:Nat->Nat->Int)(y:Nat->Rat):Prop:=∀i,i<n->jK m (fun j=>(E i j:Rat)*y j)=0
theorem Sol.bx{n m i k:Nat}{E:Nat->Nat->Int}{y:Nat->Rat}(hi:i<n)(hk:k<n):Sol n m (bx E i k) y↔Sol n m E y:=by
 have h1:∀E:Nat->Nat->Int,Sol n m E y->Sol n m (Go.Proofs.YtnbmaipobhppcaaGreat.bx E i k) y:=fun E h a ha=>by
  unfold Go.Proofs.YtnbmaipobhppcaaGreat.bx;by_cases e1:a=i
  ·rw[if_pos e1];exact h k hk
  ·rw[if_neg e1]
   by_cases e2:a=k
   ·rw[if_pos e2];exact h i hi
   ·rw[if_neg e2];exact h a ha
 refine⟨fun h=>?_,h1 E⟩;have h2:=h1 _ h;have h3:Go.Proofs.YtnbmaipobhppcaaGreat.bx (Go.Proofs.YtnbmaipobhppcaaGreat.bx E i k) i k=E:=by
  funext a
  unfold Go.Proofs.YtnbmaipobhppcaaGreat.bx;by_cases e1:a=i
  ·subst e1
   rw[if_pos rfl];by_cases e3:k=a
   ·rw[if_pos e3,e3]
   ·rw[if_neg e3,if_pos rfl]
  ·rw[if_neg e1]
   by_cases e2:a=k
   ·subst e2;rw[if_pos rfl,if_pos rfl]
   ·rw[if_neg e2,if_neg e1,if_neg e2]
 rwa[h3]at h2
def ExS(n m:Nat)(E:Nat->Nat->Int)(k c:Nat)(q:Int):Prop:=∀i,i<n->i≠k->∀j,j<m->q∣E k c*E i j-E i c*E k j
theorem zKQ{n m k c:Nat}{E:Nat->Nat->Int}{q:Int}(hx:ExS n m E k c q){i j:Nat}(hi:i<n)(hik:i≠k)(hj:j<m):q*yP E k c q i j=E k c*E i j-E i c*E k j:=by
 unfold yP;rw[if_neg hik];exact Int.mul_ediv_cancel' (hx i hi hik j hj)
theorem zO0{m:Nat}{q p z:Int}{f g h:Nat->Int}{y:Nat->Rat}(he:∀j,j<m->q*f j=p*g j-z*h j):(q:Rat)*jK m (fun j=>(f j:Rat)*y j)=p*jK m (fun j=>(g j:Rat)*y j)+(-z)*jK m (fun j=>(h j:Rat)*y j):=by
 rw[<-zBN,<-zGQ];refine qI fun j hj=>?_
 have h1:((q*f j:Int):Rat)=((p*g j-z*h j:Int):Rat):=by rw[he j hj]
 rw[Rat.intCast_mul,Rat.intCast_sub,Rat.intCast_mul,Rat.intCast_mul]at h1;grind
theorem Sol.step{n m k c:Nat}{E:Nat->Nat->Int}{q:Int}{y:Nat->Rat}(hk:k<n)(hx:ExS n m E k c q)(hq:q≠0)(hp:E k c≠0):Sol n m (yP E k c q) y↔Sol n m E y:=by
 have hq':(q:Rat)≠0:=fun e=>hq (Rat.intCast_eq_zero_iff.1 e)
 have hp':(E k c:Rat)≠0:=fun e=>hp (Rat.intCast_eq_zero_iff.1 e)
 have hrow:∀i,i<n->i≠k->(q:Rat)*jK m (fun j=>(yP E k c q i j:Rat)*y j)=E k c*jK m (fun j=>(E i j:Rat)*y j)+(-(E i c:Rat))*jK m (fun j=>(E k j:Rat)*y j):=fun i hi hik=>zO0 fun j hj=>zKQ hx hi hik hj
 have hkk:yP E k c q k=E k:=by funext j;unfold yP;rw[if_pos rfl]
 constructor
 ·intro h
  have h0:jK m (fun j=>(E k j:Rat)*y j)=0:=by have:=h k hk;rwa[hkk]at this
  intro i hi;by_cases e:i=k
  ·subst e;exact h0
  ·have h1:=hrow i hi e
   rw[h i hi,h0]at h1;grind
 ·intro h i hi
  by_cases e:i=k
  ·subst e;rw[hkk];exact h i hi
  ·have h1:=hrow i hi e
   rw[h i hi,h k hk]at h1;grind
def ExR(n m cols:Nat)(E:Nat->Nat->Int):Prop:=∀c,c<cols->(zAi n E c).pv.length<n->zEw n c (zAi n E c)<n->
 ExS n m (bx (zAi n E c).E (zEw n c (zAi n E c)) (zAi n E c).pv.length) (zAi n E c).pv.length c (zAi n E c).last
structure zKG(n m c:Nat)(L:Nat->Nat->Int)(s:BE):Prop where
 len:s.pv.length<=n
 lc:s.pv.length<=c
 lt:∀(k t:Nat),s.pv[k]?=some t->t<c
 q:s.last≠0
 sol:∀y,Sol n m s.E y↔Sol n m L y
 low:∀i,s.pv.length<=i->i<n->∀j,j<c->s.E i j=0
 piv:∀(k t:Nat),s.pv[k]?=some t->s.E k t≠0/\∀i,i<n->i≠k->s.E i t=0
theorem zKG.run{n m cols:Nat}{L:Nat->Nat->Int}(hx:ExR n m cols L)(hm:cols<=m):∀c,c<=cols->zKG n m c L (zAi n L c)
 |0,_=>⟨Nat.zero_le _,Nat.zero_le _,fun k t h=>by simp[zAi]at h,fun h=>absurd (show(1:Int)=0 from h) dE,fun y=>Iff.rfl,fun i _ _ j hj=>by omega,fun k t h=>by simp[zAi]at h⟩
 | c +1,hc=>by
  obtain⟨h1,h2,h3,h4,h5,h6,h7⟩:=zKG.run hx hm c oM;have hex:=hx c oM;show zKG n m (c+1) L (zGd n c (zAi n L c));generalize zAi n L c=s at*;obtain⟨p,hp⟩:∃p,zEw n c s=p:=⟨_,rfl⟩;have hF:=hp;unfold zEw at hF;have g1:=zBG (fun i=>decide (s.E i c≠0)) s.pv.length (n-s.pv.length);rw[hF]at g1;unfold zGd;rw[hp]at hex ⊢
  by_cases hlt:s.pv.length<n/\p<n
  ·rw [if_pos hlt]
   obtain⟨hl,hpn⟩:=hlt;have hpv:s.E p c≠0:=by
    have:=zBF (fun i=>decide (s.E i c≠0)) s.pv.length (n-s.pv.length) oM;rw[hF]at this;simpa using this
   have hE:=hex hl hpn;obtain⟨k,hk⟩:∃k,s.pv.length=k:=⟨_,rfl⟩;rw[hk]at h1 h2 h6 hE hl g1 ⊢
   have hkk:bx s.E p k k=s.E p:=by
    unfold bx;by_cases e:k=p
    ·rw[if_pos e,e]
    ·rw[if_neg e,if_pos rfl]
   have hbx:∀i,k<=i->i<n->∀j,j<c->bx s.E p k i j=0:=fun i hi hin j hj=>by
    unfold bx;by_cases e1:i=p
    ·rw[if_pos e1];exact h6 k (xgf _) hl j hj
    ·rw[if_neg e1]
     by_cases e2:i=k
     ·rw[if_pos e2];exact h6 p oM hpn j hj
     ·rw[if_neg e2];exact h6 i hi hin j hj
   have hbl:∀i,i<k->bx s.E p k i=s.E i:=fun i hi=>by
    unfold bx;rw[if_neg oM,if_neg oM]
   have hpk:bx s.E p k k c≠0:=by rw[hkk];exact hpv
   have hold:∀(k' t:Nat),s.pv[k']?=some t->∀i,i<n->i≠k'->bx s.E p k i t=0:=fun k' t h i hi hik=>by
    have hk':k'<k:=by rw[<-hk];exact(xge.1 h).1
    rcases Nat.lt_or_ge i k with hik2|hik2
    ·rw[hbl i hik2];exact(h7 k' t h).2 i hi hik
    ·exact hbx i hik2 hi t (h3 k' t h)
   refine⟨by simp;omega,by simp;omega,fun k' t h=>?_,by exact hpk,fun y=>((Sol.step hl hE h4 hpk).trans (Sol.bx hpn hl)).trans (h5 y),fun i hi hin j hj=>?_,fun k' t h=>?_⟩
   ·dsimp only at h
    rw[List.getElem?_append]at h;split at h
    ·have:=h3 k' t h;omega
    ·obtain⟨h8,h9⟩:=xge.1 h
     simp at h8 h9;omega
   ·simp at hi
    rw[hk]at hi;show yP _ _ _ _ i j=0;unfold yP;rw[if_neg oM];by_cases e:j=c
    ·subst e
     rw[Int.mul_comm,Int.sub_self,Int.zero_ediv]
    ·rw[hbx i oM hin j oM,hbx k (xgf _) hl j oM,Int.mul_zero,Int.mul_zero,Int.sub_self,Int.zero_ediv]
   ·dsimp only at h ⊢
    rw[List.getElem?_append]at h;split at h
    ·rename_i hk'
     rw[hk]at hk';have hz:=hold k' t h;refine⟨?_,fun i hi hik=>?_⟩
     ·have hne:=hE k' oM oM t (Nat.lt_of_lt_of_le (h3 k' t h) oM)
      have hq:=zKQ hE (i:=k') (j:=t) oM oM (Nat.lt_of_lt_of_le (h3 k' t h) oM);rw[hz k hl oM,Int.mul_zero,Int.sub_zero]at hq;intro e0;rw[e0,Int.mul_zero]at hq;have h70:=(h7 k' t h).1;rw[<-hbl k' oM]at h70;exact(Int.mul_ne_zero hpk h70) hq.symm
     ·unfold yP
      by_cases e:i=k
      ·rw[if_pos e,e];exact hz k hl oM
      ·rw[if_neg e,hz i hi hik,hz k hl oM,Int.mul_zero,Int.mul_zero,Int.sub_self,Int.zero_ediv]
    ·rename_i hk'
     rw[hk]at hk' h;have hk2:k'=k/\t=c:=by
      obtain⟨h8,h9⟩:=xge.1 h;simp at h8 h9;omega
     obtain⟨rfl,rfl⟩:=hk2;refine⟨?_,fun i hi hik=>?_⟩
     ·unfold yP
      rw[if_pos rfl];exact hpk
     ·unfold yP
      rw[if_neg hik,Int.mul_comm,Int.sub_self,Int.zero_ediv]
  ·rw[if_neg hlt]
   refine⟨h1,by omega,fun k t h=>by have:=h3 k t h;omega,h4,h5,fun i hi hin j hj=>?_,h7⟩;by_cases e:j=c
   ·subst e
    have:=zC0 (fun i=>decide (s.E i j≠0)) s.pv.length (n-s.pv.length) i hi (by rw[hF];omega);simpa using this
   ·exact h6 i hi hin j oM
end Go.Proofs.YtnbmaipobhppcaaGreat
