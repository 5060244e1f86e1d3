/- The reference's integers, eleventh part: Gcd. Package integer: Ext. Rows and matrices of integers in memory. -/
import Derived.Test.YtnbmaipobhppcaaGreatD07
set_option linter.unusedVariables false
set_option linter.unusedSimpArgs false
set_option linter.unusedSectionVars false
set_option maxHeartbeats 16000000
set_option maxRecDepth 100000
namespace Go.Proofs.YtnbmaipobhppcaaGreat
open Go.RowKit
theorem zN6(a b:Int):Int.gcd b (a%b)=Int.gcd a b:=by
 have key:∀d:Nat,((d:Int)∣b/\(d:Int)∣a%b)↔((d:Int)∣a/\(d:Int)∣b):=by
  intro d;constructor
  ·rintro⟨h1,h2⟩
   refine⟨?_,h1⟩;have:=Int.emod_add_mul_ediv a b;rw[<-this];exact Int.dvd_add h2 (Int.dvd_trans h1 (Int.dvd_mul_right _ _))
  ·rintro⟨h1,h2⟩
   refine⟨h2,?_⟩;have:=Int.emod_def a b;rw[this];exact Int.dvd_sub h1 (Int.dvd_trans h2 (Int.dvd_mul_right _ _))
 apply Nat.dvd_antisymm
 ·have h:=(key (Int.gcd b (a%b))).1 ⟨Int.gcd_dvd_left ..,Int.gcd_dvd_right ..⟩
  exact Int.dvd_gcd h.1 h.2
 ·have h:=(key (Int.gcd a b)).2 ⟨Int.gcd_dvd_left ..,Int.gcd_dvd_right ..⟩
  exact Int.dvd_gcd h.1 h.2
theorem zGw(v1 v2:Value)(z1 z2:Int)(w:World)(h1:zH w v1 z1)(h2:zH w v2 z2)(s1:Smd z1)(s2:Smd z2):
  Calls Tryz.prog 235 #[v1,v2] w (jL w ((Int.gcd z1 z2:Nat):Int)):=by
 obtain⟨neg1,ao1,n1,cap1,xs,rfl,i1⟩:=id h1;obtain⟨neg2,ao2,n2,cap2,ys,rfl,i2⟩:=id h2;have HS1:=xgw s1;have HS2:=xgw s2;clear s1 s2 i1 i2;go_enter Tryz.func235,Tryz.ntmps235;go_upto_block 0 with(fail)
 refine zB ?_;intro W0 hW0;obtain⟨hB0,bx1,bx2,br,hs0⟩:=yG hW0;have h1:=h1.ext (lx hB0);have h2:=h2.ext (lx hB0);obtain⟨f,hf⟩:=zFu;go_wp2;go_loopw [] (fun wr=>∃(a b:Int) (x1 y1 x2 y2:Value),Below w.heap.size w wr/\Blk wr w.heap.size 35 #[x1,y1]/\zH wr (.agg #[x1,y1]) a/\Blk wr (w.heap.size+1) 35 #[x2,y2]/\zH wr (.agg #[x2,y2]) b∧
  Blk wr (w.heap.size+1+1) 35 #[.bool false,.slice none 0 0]/\Hid (Int.gcd a b=Int.gcd z1 z2)/\Smd a/\Smd b) (fun wr=>(f wr (w.heap.size+1)).natAbs)
 case atStart=>exact⟨z1,z2,_,_,_,_,hB0,bx1,h1,bx2,h2,br,xgw rfl,HS1.out,HS2.out⟩
 case round=>
  obtain⟨a,b,x1,y1,x2,y2,hbr,p1,j1,p2,j2,p3,hg,sa,sb⟩:=hrel;have HSA:=xgw sa;have HSB:=xgw sb;clear sa sb;have hfr:=hf _ _ _ _ _ p2 j2;obtain⟨an,aa,al,ac,ax,hav,ha⟩:=id j1;injection hav with hav
  simp only[Array.mk.injEq,List.cons.injEq,and_true]at hav;obtain⟨rfl,rfl⟩:=hav;have HA:=xgw ha;clear ha;obtain⟨bn,ba,bl,bc,bx,hbv,hb⟩:=id j2;injection hbv with hbv
  simp only[Array.mk.injEq,List.cons.injEq,and_true]at hbv;obtain⟨rfl,rfl⟩:=hbv;have HB:=xgw hb;clear hb;obtain⟨d1,d2,d3,d4⟩:=p2.two;go_wp2_with fail
  refine(zAx _ _ wr j2).mono ?_;rintro e w3 ⟨rfl,hb3⟩;have p1:=p1.below hb3;have p2:=p2.below hb3;have p3:=p3.below hb3;clear d1 d2 d3 d4;obtain⟨c1,c2,c3,c4⟩:=p1.two;obtain⟨d1,d2,d3,d4⟩:=p2.two;have hbr:=nx hbr hb3;have j1:=j1.ext (lx hb3);have j2:=j2.ext (lx hb3);by_cases h0:b=0
  ·have hc:qJ b 0=0:=by unfold qJ;rw[if_neg oM,if_neg oM]
   rw[hc];have hhb:=HB;obtain⟨e1,e2,e3,e4,e5,e6,-⟩:=HA.out;have hal:al<=8*LIM:=by
    have:=(e6 ▸ HSA.out).len e5;rw[e1,zAP]at this;rw[qV];omega
   have HE1:=xgw e1;have HE6:=xgw e6;clear e1 e6;go_wp2_with fail
   refine(yL aa al ac ax false w3 HE1.out e2 e3 hal (e4.ext (lx hb3))).mono ?_;rintro e w4 ⟨v,rfl,hv,hb4⟩;obtain⟨vn,va,vl,vc,vx,rfl,hv'⟩:=id hv;have HV:=xgw hv';clear hv';have p3:=p3.below hb4;obtain⟨g1,g2,g3,g4⟩:=p3.two;go_wp2_with fail
   refine zW rfl rfl rfl (p3.put2 _ _) ?_ (zT (zT (nx hbr hb4) oM 0 _) oM 1 _);rw[<-hg.out,h0,Int.gcd_zero,HE6.out,zZ,<-sgn_false];exact hv.ext (p3.lext2 dE _ _)
  ·have hc:qJ b 0≠0:=by unfold qJ;split<;>(try split)<;>omega
   obtain⟨k,hk⟩:∃k,qJ b 0=k:=⟨_,rfl⟩;rw[hk]at hc ⊢
   have hl5:=p3.lt;go_wp2_with fail
   refine(zB4 _ _ a b w3 j1 j2 HSA.out HSB.out h0).mono ?_;rintro e w4 ⟨q0,r0,rfl,hq,hr,hb4⟩;obtain⟨qn,qa,ql,qc,qx,rfl,hq'⟩:=id hq;obtain⟨rn,ra,rl,rc,rx,rfl,hr'⟩:=id hr;have HQ':=xgw hq';have HR':=xgw hr';clear hq' hr' hk hc;go_upto_region 3 with(fail)
   refine zB ?_;intro W5 hW5;obtain⟨hB5,T5,T6,hs5⟩:=qI hW5;have p1:=(p1.below hb4).below hB5;have p2:=(p2.below hb4).below hB5;have p3:=(p3.below hb4).below hB5;have hbr:=nx (nx hbr hb4) hB5;have j2:=(j2.ext (lx hb4)).ext (lx hB5);have hr:=hr.ext (lx hB5);clear c1 c2 c3 c4 d1 d2 d3 d4;obtain⟨d1,d2,d3,d4⟩:=p2.two;obtain⟨f1,f2,f3,f4⟩:=T6.two;have hl6:=T6.lt;have hl3:=p3.lt;have hl4:w.heap.size+1+1<w4.heap.size:=by have h1:=hb4.size;omega
   clear hW5;refine zE rfl (RI W5 (W5.heap.size) _ 35
     [E 0 18 (.agg #[.bool bn,.slice ba bl bc]),E 1 19 (.agg #[.bool rn,.slice ra rl rc])] [] [⟨2,w.heap.size,fun w v=>zH w v (b)⟩,⟨3,w.heap.size+1,fun w v=>zH w v ((a%b))⟩]) kR RI.start ?fin1 ?steps1
   case steps1=>
    refine⟨?_,?_,?_,?_,trivial⟩<;>(intro L T wS hL hd hcl hI K hK;try refine zA rfl ?_)
    ·have zt:=hI.k 3 rfl kR
     have zl:L[3]?≠some true:=fun hh=>by have:=hcl 3 _ rfl hh 0 kR;rw[hL]at this;cases this
     have cc0:=hI.cellE _ mm1 d1 zl;have cc1:=hI.cellE _ mm1 d2 zl;dsimp only at cc0;dsimp only at cc1;exact xgu
    ·have zt:=hI.k 6 rfl kR
     have cc0:=hI.cell f1 oM aU;have cc1:=hI.cell f2 oM aU;exact xgu
    ·have zt:=hI.k 2 rfl kR
     have zv:=hI.e mm0 (hd 0);obtain⟨⟨xo,yo,zb,-⟩,-⟩:=hI.ex _ mm0;replace zb:Blk wS (w.heap.size) 35 #[xo,yo]:=zb;obtain⟨zk1,zk2,zk3,zk4⟩:=zb.two;go_simp;exact hK _ _ (hI.storeE ⟨2,w.heap.size,_⟩ mm0 rfl hL rfl (zH.ext j2 hI.lext))
    ·have zt:=hI.k 3 rfl kR
     have zv:=hI.e mm1 (hd 1);obtain⟨⟨xo,yo,zb,-⟩,-⟩:=hI.ex _ mm1;replace zb:Blk wS (w.heap.size+1) 35 #[xo,yo]:=zb;obtain⟨zk1,zk2,zk3,zk4⟩:=zb.two;go_simp;exact hK _ _ (hI.storeE ⟨3,w.heap.size+1,_⟩ mm1 rfl hL rfl (zH.ext hr hI.lext))
   intro T W6 hI;obtain⟨⟨exa2,eya2,eba2,eia2⟩,-⟩:=hI.ex _ mm0;replace eba2:Blk W6 (w.heap.size) 35 #[exa2,eya2]:=eba2;replace eia2:zH W6 (.agg #[exa2,eya2]) (b):=eia2 rfl;obtain⟨⟨exa3,eya3,eba3,eia3⟩,-⟩:=hI.ex _ mm1;replace eba3:Blk W6 (w.heap.size+1) 35 #[exa3,eya3]:=eba3;replace eia3:zH W6 (.agg #[exa3,eya3]) ((a%b)):=eia3 rfl;have hT:=hI.finx kR kR;have hlW6:=hI.lext;have hbW6:=hI.bel (w.heap.size) oM aU;have holdW6:=hI.old;clear hI;simp only[zEH,zD1,E,EI,ptr,xgm,List.not_mem_nil,false_implies,implies_true,and_true,true_and,xgg,xgh,xgi,xgj]at hT;subst hT;have p3:Blk W6 (w.heap.size+1+1) 35 #[.bool false,.slice none 0 0]:=
    (holdW6 _ oM aU).trans p3
   go_wp2;go_roundw
   case rel=>
    refine⟨b,a%b,_,_,_,_,hbr.trans hbW6,eba2,eia2,eba3,eia3,p3,?_,HSB.out,HSB.out.mono ?_⟩
    ·refine xgw ?_
     rw[zN6,hg.out]
    ·have h5:=Int.emod_nonneg a h0
     have h6:=Int.emod_lt a h0;omega
   case measure=>
    rw[hf _ _ _ _ _ eba3 eia3,hfr];have h5:=Int.emod_nonneg a h0;have h6:=Int.emod_lt a h0;omega
def jR(w:World)(b:Nat)(z:Int):Prop:=∃n a l c,Blk w b 35 #[.bool n,.slice a l c]/\zH w (.agg #[.bool n,.slice a l c]) z
theorem jR.mk{w:World}{b:Nat}{z:Int}{x y:Value}(h:Blk w b 35 #[x,y])(hv:zH w (.agg #[x,y]) z):jR w b z:=by
 obtain⟨n,a,l,c,xs,e,h2⟩:=id hv;injection e with e
 simp only[Array.mk.injEq,List.cons.injEq,and_true]at e;obtain⟨rfl,rfl⟩:=e;exact⟨_,_,_,_,h,hv⟩
theorem jR.old{w w':World}{b:Nat}{z:Int}(h:jR w b z)(e:w'.heap[b]?=w.heap[b]?)(x:yO w w'):jR w' b z:=by
 obtain⟨n,a,l,c,h1,h2⟩:=h;exact⟨n,a,l,c,e.trans h1,h2.ext x⟩
theorem jR.lt{w:World}{b:Nat}{z:Int}(h:jR w b z):b<w.heap.size:=by
 obtain⟨n,a,l,c,h1,h2⟩:=h;exact h1.lt
theorem jR.below{w w':World}{b:Nat}{z:Int}(h:jR w b z)(hb:Below w.heap.size w w'):jR w' b z:=h.old (hb.block _ h.lt) (lx hb)
theorem jR.far{w:World}{b r:Nat}{z:Int}(h:jR w b z)(hne:b≠r){t:TypeId}{cs:Array Value}(hr:Blk w r t cs)(ht:t≠tU)(x y:Value):jR ((w.setCell ⟨r,0,none⟩ x).setCell ⟨r,1,none⟩ y) b z:=
 h.old ((Below.heap_setCell _ ⟨r,1,none⟩ _ b hne).trans (Below.heap_setCell _ ⟨r,0,none⟩ _ b hne)) (hr.lext2 ht x y)
theorem jR.put{w:World}{r:Nat}{z:Int}{c0 c1:Value}(hr:Blk w r 35 #[c0,c1]){x y:Value}(hv:zH w (.agg #[x,y]) z):jR ((w.setCell ⟨r,0,none⟩ x).setCell ⟨r,1,none⟩ y) r z:=
 jR.mk (hr.put2 _ _) (hv.ext (hr.lext2 dE _ _))
structure zIG(w wr:World)(a b:Int):Prop where
 a:jR wr w.heap.size a
 b:jR wr (w.heap.size+1) b
 r1:Blk wr (w.heap.size+1+1) 35 #[.bool false,.slice none 0 0]
 r2:Blk wr (w.heap.size+1+1+1) 35 #[.bool false,.slice none 0 0]
 r3:Blk wr (w.heap.size+1+1+1+1) 35 #[.bool false,.slice none 0 0]
theorem zIG.old{w wr w':World}{a b:Int}(h:zIG w wr a b)(e:∀k,k<=w.heap.size+1+1+1+1->w'.heap[k]?=wr.heap[k]?)(x:yO wr w'):zIG w w' a b:=
 ⟨h.a.old (e _ oM) x,h.b.old (e _ oM) x,(e _ oM).trans h.r1,(e _ oM).trans h.r2,(e _ oM).trans h.r3⟩
theorem zIG.below{w wr w':World}{a b:Int}(h:zIG w wr a b)(hb:Below wr.heap.size wr w'):zIG w w' a b:=
 h.old (fun k hk=>hb.block k (by have:=h.r3.lt;omega)) (lx hb)
structure zNg(a b:Int)(x y:Nat)(σ:Bool)(p p' r r':Nat):Prop where
 hg:Nat.gcd x y=Int.gcd a b
 hx:(x:Int)=sgn σ p*(a.natAbs:Int)+sgn (!σ) r*(b.natAbs:Int)
 hy:(y:Int)=sgn (!σ) p'*(a.natAbs:Int)+sgn σ r'*(b.natAbs:Int)
 hb:p'*x+p*y=b.natAbs
 ha:r'*x+r*y=a.natAbs
 pb:p<=max 1 b.natAbs
 pb':p'<=max 1 b.natAbs
 rb:r<=max 1 a.natAbs
 rb':r'<=max 1 a.natAbs
 yb:y<=b.natAbs
 xb:x<=max a.natAbs b.natAbs
theorem zNg.start(a b:Int):zNg a b a.natAbs b.natAbs false 1 0 0 1:=
 ⟨rfl,by simp,by simp,by simp,by simp,by omega,by omega,by omega,by omega,xgf _,by omega⟩
theorem zCK(σ:Bool)(p q p':Nat):sgn σ p-(q:Int)*sgn (!σ) p'=sgn σ (p+q*p'):=by
 have e:((q*p':Nat):Int)=(q:Int)*(p':Int):=Int.natCast_mul _ _;cases σ
 ·show(p:Int)-(q:Int)*(-(p':Int))=((p+q*p':Nat):Int)
  rw[Int.natCast_add,e,Int.mul_neg];omega
 ·show-(p:Int)-(q:Int)*((p':Nat):Int)=-((p+q*p':Nat):Int)
  rw[Int.natCast_add,e];omega
theorem zNg.step{a b:Int}{x y:Nat}{σ:Bool}{p p' r r':Nat}(h:zNg a b x y σ p p' r r')(hy:0<y):
  zNg a b y (x%y) (!σ) p' (p+x/y*p') r' (r+x/y*r'):=by
 have hd:=Nat.div_add_mod x y;have hm:=Nat.mod_lt x hy;have e1:(p+x/y*p')*y+p'*(x%y)=b.natAbs:=by
  rw[<-h.hb];have:p'*x=p'*(y*(x/y))+p'*(x%y):=by rw[<-Nat.mul_add,hd]
  rw[this,Nat.add_mul,Nat.mul_comm (x/y) p',Nat.mul_assoc,Nat.mul_comm (x/y) y];omega
 have e2:(r+x/y*r')*y+r'*(x%y)=a.natAbs:=by
  rw[<-h.ha];have:r'*x=r'*(y*(x/y))+r'*(x%y):=by rw[<-Nat.mul_add,hd]
  rw[this,Nat.add_mul,Nat.mul_comm (x/y) r',Nat.mul_assoc,Nat.mul_comm (x/y) y];omega
 have b1:p+x/y*p'<=b.natAbs:=by
  have:=Nat.le_mul_of_pos_right (p+x/y*p') hy;omega
 have b2:r+x/y*r'<=a.natAbs:=by
  have:=Nat.le_mul_of_pos_right (r+x/y*r') hy;omega
 refine⟨?_,by rw[Bool.not_not];exact h.hy,?_,e1,e2,h.pb',by omega,h.rb',by omega,?_,by have:=h.yb;omega⟩
 ·rw[<-h.hg,Nat.gcd_comm x y,Nat.gcd_rec y x,Nat.gcd_comm]
 ·rw[Bool.not_not]
  have hq:((x%y:Nat):Int)=(x:Int)-((x/y:Nat):Int)*(y:Int):=by
   have:((y*(x/y)+x%y:Nat):Int)=(x:Int):=by rw[hd]
   rw[Int.natCast_add,Int.natCast_mul,Int.mul_comm]at this;omega
  rw[hq,h.hx,h.hy,<-zCK,<-zCK (!σ) r (x/y) r',Bool.not_not];simp only[Int.sub_mul,Int.mul_add,Int.mul_assoc];omega
 ·have:=h.yb
  omega
def zOx(w:World)(a b:Int)(e:Ending)(w':World):Prop:=
 ∃v1 v2 v3 s t,e= .returned (.tuple #[v1,v2,v3])/\zH w' v1 ((Int.gcd a b:Nat):Int)/\zH w' v2 s/\zH w' v3 t/\s*a+t*b=((Int.gcd a b:Nat):Int)∧
  s.natAbs<=max 1 b.natAbs/\t.natAbs<=max 1 a.natAbs/\Below w.heap.size w w'
theorem zN4(v1 v2:Value)(a b:Int)(w:World)(h1:zH w v1 a)(h2:zH w v2 b)(s1:Smd a)(s2:Smd b):
  Calls Tryz.prog 299 #[v1,v2] w (zOx w a b):=by
 obtain⟨neg1,ao1,n1,cap1,xs,rfl,i1⟩:=id h1;obtain⟨neg2,ao2,n2,cap2,ys,rfl,i2⟩:=id h2;have HS1:=xgw s1;have HS2:=xgw s2;clear s1 s2 i1 i2;go_enter Tryz.func299,Tryz.ntmps299;go_upto_region 1 with(fail)
 refine zB ?_;intro W0 hW0;obtain⟨hB0,bx1,bx2,br1,br2,br3,hs0⟩:=zPc hW0;have h1:=h1.ext (lx hB0);have h2:=h2.ext (lx hB0);have hk:zIG w W0 a b:=⟨jR.mk bx1 h1,jR.mk bx2 h2,br1,br2,br3⟩;obtain⟨c1,c2,c3,c4⟩:=bx1.two;obtain⟨d1,d2,d3,d4⟩:=bx2.two;have SA:=HS1.out.sm;have SB:=HS2.out.sm;refine zE rfl (RI W0 (W0.heap.size) _ 35
   [E 0 16 (.agg #[.bool neg1,.slice ao1 n1 cap1]),EI 1 17 (((a.natAbs:Nat):Int)),E 2 18 (.agg #[.bool neg2,.slice ao2 n2 cap2]),EI 3 19 (((b.natAbs:Nat):Int))] [⟨4,7,6,fun w v=>zH w v (((a.natAbs:Nat):Int))⟩,⟨5,8,7,fun w v=>zH w v (((b.natAbs:Nat):Int))⟩] []) kR RI.start ?fin1 ?steps1
 case steps1=>
  refine⟨?_,?_,?_,?_,?_,?_,?_,?_,trivial⟩<;>(intro L T wS hL hd hcl hI K hK;try refine zA rfl ?_)
  ·have zt:=hI.k 2 rfl kR
   have cc0:=hI.cell c1 oM nom;have cc1:=hI.cell c2 oM nom;exact xgu
  ·have zt0:=hI.e mm0 (hd 0)
   go_simp;refine(zJ0 _ a _ (h1.ext hI.lext).weak SA).mono ?_;exact xgo
  ·have zt:=hI.k 3 rfl kR
   have cc0:=hI.cell d1 oM nom;have cc1:=hI.cell d2 oM nom;exact xgu
  ·have zt2:=hI.e mm2 (hd 2)
   go_simp;refine(zJ0 _ b _ (h2.ext hI.lext).weak SB).mono ?_;exact xgo
  ·go_simp
   exact hK _ _ (hI.alloc ⟨4,7,6,_⟩ mm0 rfl hL)
  ·go_simp
   exact hK _ _ (hI.alloc ⟨5,8,7,_⟩ mm1 rfl hL)
  ·obtain⟨v,t1,hv⟩:=hI.vi mm1 (hd 1)
   obtain⟨b,x,y,t2,hb1,hb2,-⟩:=hI.box _ mm0 (hd 4);obtain⟨vneg,vao,vlen,vcap,vls,rfl,hv'⟩:=id hv;have HT:=xgw t2;unfold ptr at t2;obtain⟨k1,k2,k3,k4⟩:=hb2.two;go_simp;exact hK _ _ (hI.store ⟨4,7,6,_⟩ mm0 rfl (hd 4) HT.out hv)
  ·obtain⟨v,t1,hv⟩:=hI.vi mm3 (hd 3)
   obtain⟨b,x,y,t2,hb1,hb2,-⟩:=hI.box _ mm1 (hd 5);obtain⟨vneg,vao,vlen,vcap,vls,rfl,hv'⟩:=id hv;have HT:=xgw t2;unfold ptr at t2;obtain⟨k1,k2,k3,k4⟩:=hb2.two;go_simp;exact hK _ _ (hI.store ⟨5,8,7,_⟩ mm1 rfl (hd 5) HT.out hv)
 intro T W1 hI;have hT:=hI.finx kR kR;have hlW1:=hI.lext;have hbW1:=hI.bel (W0.heap.size) oM nom;have holdW1:=hI.old;clear hI;simp only[zEH,zD1,E,EI,ptr,xgm,List.not_mem_nil,false_implies,implies_true,and_true,true_and,xgg,xgh,xgi,xgj]at hT;obtain⟨va1,ha1,va3,ha3,ca4,xa4,ya4,ga4,ka4,ia4,ca5,xa5,ya5,ga5,ka5,ia5,na4_5,rfl⟩:=hT;have hk:=hk.below hbW1;have hBt:=nx hB0 hbW1;have z7:=jR.mk ka4 ia4;have z8:=jR.mk ka5 ia5;have l7:=z7.lt;have l8:=z8.lt;clear c1 c2 c3 c4 d1 d2 d3 d4 SA SB h1 h2 bx1 bx2 br1 br2 br3 ha1 ha3 ka4 ia4 ka5 ia5 hW0;go_wp2_with fail
 refine(zBF 1 W1 oM oM).mono ?_;rintro e w2 ⟨v,rfl,hv,hb2⟩;obtain⟨an,aa,al,ac,ax,rfl,ha⟩:=id hv;have HA:=xgw ha;clear ha;go_wp2_with fail
 refine(zBF 0 w2 oM oM).mono ?_;rintro e w3 ⟨u,rfl,hu,hb3⟩;obtain⟨bn,ba,bl,bc,bx,rfl,hb⟩:=id hu;have HB:=xgw hb;clear hb;go_upto_region 3 with(fail)
 refine zB ?_;intro W4 hW4;obtain⟨hB4,T9,T10,hs4⟩:=qI hW4;have hk:=((hk.below hb2).below hb3).below hB4;have hBt:=nx (nx (nx hBt hb2) hb3) hB4;have z7:=((z7.below hb2).below hb3).below hB4;have z8:=((z8.below hb2).below hb3).below hB4;have z9:=jR.mk T9 (hv.ext ((lx hb3).trans (lx hB4)));have z10:=jR.mk T10 (hu.ext (lx hB4));have hs1':=hb2.size;have hs2':=hb3.size;have hs3':=hbW1.size;clear hv hu hb2 hb3 hB4 T9 T10 hW4;go_wp2_with fail
 refine(zBF 0 W4 oM oM).mono ?_;rintro e w5 ⟨v,rfl,hv,hb2⟩;obtain⟨cn,ca,cl,cc,cx,rfl,ha⟩:=id hv;have HA':=xgw ha;clear ha;go_wp2_with fail
 refine(zBF 1 w5 oM oM).mono ?_;rintro e w6 ⟨u,rfl,hu,hb3⟩;obtain⟨dn,da,dl,dc,dx,rfl,hb⟩:=id hu;have HB':=xgw hb;clear hb;go_upto_block 0 with(fail)
 refine zB ?_;intro W7 hW7;obtain⟨hB7,T11,T12,hs7⟩:=qI hW7;have hk:=((hk.below hb2).below hb3).below hB7;have hBt:=nx (nx (nx hBt hb2) hb3) hB7;have z7:=((z7.below hb2).below hb3).below hB7;have z8:=((z8.below hb2).below hb3).below hB7;have z9:=((z9.below hb2).below hb3).below hB7;have z10:=((z10.below hb2).below hb3).below hB7;have z11:=jR.mk T11 (hv.ext ((lx hb3).trans (lx hB7)));have z12:=jR.mk T12 (hu.ext (lx hB7));have hs5':=hb2.size;have hs6':=hb3.size;clear hv hu hb2 hb3 hB7 T11 T12 hW7;obtain⟨f,hf⟩:=zFu;have lt8:=z8.lt;have lt7:=z7.lt;have q7:w.heap.size+1+1+1+1<ca4:=by omega
 have q8:w.heap.size+1+1+1+1<ca5:=by omega
 have q79:ca4<w3.heap.size:=by omega
 have q89:ca5<w3.heap.size:=by omega
 have q11:w3.heap.size+1<w6.heap.size:=by omega
 clear lt7 lt8 l7 l8 hs0 hs4 hs5' hs6' hs1' hs2' hs3' ga4 ga5;go_wp2;go_loopw [] (fun wr=>∃(x y:Nat) (σ:Bool) (p p' r r':Nat),zNg a b x y σ p p' r r'/\Below w.heap.size w wr/\zIG w wr a b/\jR wr ca4 x/\jR wr ca5 y/\jR wr w3.heap.size (sgn σ p)/\jR wr (w3.heap.size+1) (sgn (!σ) p')∧
  jR wr w6.heap.size (sgn (!σ) r)/\jR wr (w6.heap.size+1) (sgn σ r')) (fun wr=>(f wr ca5).natAbs)
 case atStart=>exact⟨_,_,_,_,_,_,_,zNg.start a b,hBt,hk,z7,z8,z9,z10,z11,z12⟩
 case round=>
  obtain⟨x,y,σ,p,p',r,r',hN,hBt,hk,z7,z8,z9,z10,z11,z12⟩:=hrel;have HN:=xgw hN;clear hN;have lt12:=z12.lt;obtain⟨yn,ya,yl,yc,k8,i8⟩:=z8;have hfr:=hf _ _ _ _ _ k8 i8;obtain⟨d1,d2,d3,d4⟩:=k8.two;go_wp2_with fail
  refine(qU _ _ wr i8.weak).mono ?_;rintro e wa ⟨rfl,hba⟩;have k8:=k8.below hba;have i8:=i8.ext (lx hba);have hk:=hk.below hba;have hBt:=nx hBt hba;have z7:=z7.below hba;have z9:=z9.below hba;have z10:=z10.below hba;have z11:=z11.below hba;have z12:=z12.below hba;have hsa:=hba.size;clear d1 d2 d3 d4 hba;obtain⟨d1,d2,d3,d4⟩:=k8.two;obtain⟨xn,xa,xl,xc,k7,i7⟩:=z7;obtain⟨c1,c2,c3,c4⟩:=k7.two;by_cases h0:y=0
  ·have hc:qJ (y:Int) 0=0:=by subst h0;rfl
   rw[hc];have hG:(x:Int)=((Int.gcd a b:Nat):Int):=by
    have:=HN.out.hg;rw[h0,Nat.gcd_zero_right]at this;rw[this]
   have HG:=xgw hG;clear hG hfr lt12;go_wp2_with fail
   refine(qU _ _ wa i7.weak).mono ?_;rintro e wb ⟨rfl,hb⟩;have k7:=k7.below hb;have i7:=i7.ext (lx hb);have hk:=hk.below hb;have hBt:=nx hBt hb;have z9:=z9.below hb;have z11:=z11.below hb;clear c1 c2 c3 c4 d1 d2 d3 d4 hb z10 z12 k8 i8 hc hsa;by_cases hx0:x=0
   ·have hc:qJ (x:Int) 0=0:=by subst hx0;rfl
    rw[hc];obtain⟨e1,e2,e3,e4⟩:=hk.r1.two;obtain⟨f1,f2,f3,f4⟩:=hk.r2.two;obtain⟨g1,g2,g3,g4⟩:=hk.r3.two;go_wp2_with fail
    refine bodyPost_ret (zA5 rfl _ rfl rfl rfl ((((hk.r1.put2 _ _).far oM _ _).far oM _ _).far oM _ _|>.far oM _ _) ((((hk.r2.far oM _ _).far oM _ _).put2 _ _).far oM _ _|>.far oM _ _) ((((hk.r3.far oM _ _).far oM _ _).far oM _ _).far oM _ _|>.put2 _ _) rfl rfl rfl) rfl ?_;refine⟨_,_,_,0,0,rfl,?_,zAA _,zAA _,?_,by omega,by omega,zT (zT (zT (zT (zT (zT hBt oM 0 _) oM 1 _) oM 0 _) oM 1 _) oM 0 _) oM 1 _⟩
    ·rw[<-HG.out,hx0];exact zAA _
    ·rw[<-HG.out,hx0];simp
   ·have hc:qJ (x:Int) 0=1:=by unfold qJ;rw[if_neg oM,if_pos oM]
    rw[hc];obtain⟨an,aa,al,ac,ka,ia⟩:=hk.a;obtain⟨c1,c2,c3,c4⟩:=ka.two;go_wp2_with fail
    refine(qU _ _ wb ia.weak).mono ?_;rintro e wc ⟨rfl,hb⟩;have k7:=k7.below hb;have i7:=i7.ext (lx hb);have hk:=hk.below hb;have hBt:=nx hBt hb;have z9:=z9.below hb;have z11:=z11.below hb;clear c1 c2 c3 c4 hb ka ia hc;have hsum:sgn σ p*(a.natAbs:Int)+sgn (!σ) r*(b.natAbs:Int)=((Int.gcd a b:Nat):Int):=by rw[<-HG.out,HN.out.hx]
    have pb:=HN.out.pb;have rb:=HN.out.rb;have SP:qF (Sm (sgn σ p)):=⟨HS2.out.sm1 (by rw[zZ];omega)⟩;have SR:qF (Sm (sgn (!σ) r)):=⟨HS1.out.sm1 (by rw[zZ];omega)⟩;obtain⟨s0,hs0⟩:∃s0,sgn σ p=s0:=⟨_,rfl⟩;obtain⟨t0,ht0⟩:∃t0,sgn (!σ) r=t0:=⟨_,rfl⟩;have ps0:s0.natAbs<=max 1 b.natAbs:=by rw[<-hs0,zZ];exact pb
    have rt0:t0.natAbs<=max 1 a.natAbs:=by rw[<-ht0,zZ];exact rb
    rw[hs0]at z9 hsum SP;rw[ht0]at z11 hsum SR;clear hs0 ht0 pb rb;by_cases ha0:a<0
    ·have hc:qJ a 0=-1:=by unfold qJ;rw[if_pos ha0]
     have hsum:-s0*a+t0*(b.natAbs:Int)=((Int.gcd a b:Nat):Int):=by
      rw[<-hsum];have:(a.natAbs:Int)=-a:=by omega
      rw[this,Int.neg_mul_comm s0 a]
     rw[hc];obtain⟨sn,sa,sl,sc,ks,is⟩:=z9;obtain⟨c1,c2,c3,c4⟩:=ks.two;go_wp2_with fail
     refine(jN _ s0 wc is.weak SP.out).mono ?_;rintro e wd ⟨v,rfl,hv,hb⟩;obtain⟨vn,va,vl,vc,vx,rfl,hv'⟩:=id hv;have HV:=xgw hv';clear hv' c1 c2 c3 c4;have ks:=ks.below hb;have k7:=k7.below hb;have i7:=i7.ext (lx hb);have hk:=hk.below hb;have hBt:=nx hBt hb;have z11:=z11.below hb;obtain⟨c1,c2,c3,c4⟩:=ks.two;go_upto_region 13 with(fail)
     refine zB ?_;intro We hWe;have z9:jR We w3.heap.size (-s0):=by rw[hWe.out];exact jR.put ks hv
     have z11:jR We w6.heap.size t0:=by rw[hWe.out];exact z11.far oM ks dE _ _
     have k7':=Blk.at_ hWe ((k7.far oM _ _).far oM _ _);have hx':yO wd We:=by rw[hWe.out];exact ks.lext2 dE _ _
     have i7:=i7.ext hx';have hk:zIG w We a b:=hk.old (fun k hk0=>by rw[hWe.out];exact(Below.heap_setCell _ ⟨_,1,none⟩ _ k (by show k≠w3.heap.size;omega)).trans (Below.heap_setCell _ ⟨_,0,none⟩ _ k (by show k≠w3.heap.size;omega))) hx';have k7:=k7';have hBt:Below w.heap.size w We:=by rw[hWe.out];exact zT (zT hBt oM 0 _) oM 1 _
     clear c1 c2 c3 c4 hWe hb ks k7' hx' hc is hv;have ps0:(-s0).natAbs<=max 1 b.natAbs:=by rw[Int.natAbs_neg];exact ps0
     obtain⟨bn',ba',bl',bc',kb,ib⟩:=hk.b;obtain⟨c1,c2,c3,c4⟩:=kb.two;go_wp2_with fail
     refine(qU _ _ We ib.weak).mono ?_;rintro e wf ⟨rfl,hb⟩;have k7:=k7.below hb;have i7:=i7.ext (lx hb);have hk:=hk.below hb;have hBt:=nx hBt hb;have z9:=z9.below hb;have z11:=z11.below hb;clear c1 c2 c3 c4 hb kb ib;by_cases hb0:b<0
     ·have hc:qJ b 0=-1:=by unfold qJ;rw[if_pos hb0]
      have hsum:(-s0)*a+-t0*b=((Int.gcd a b:Nat):Int):=by
       rw[<-hsum];have:(b.natAbs:Int)=-b:=by omega
       rw[this,Int.neg_mul_comm t0 b]
      rw[hc];obtain⟨tn,ta,tl,tc,kt,it⟩:=z11;obtain⟨c1,c2,c3,c4⟩:=kt.two;go_wp2_with fail
      refine(jN _ t0 wf it.weak SR.out).mono ?_;rintro e wg ⟨v,rfl,hv,hb⟩;obtain⟨un,ua,ul,uc,ux,rfl,hv'⟩:=id hv;have HU:=xgw hv';clear hv' c1 c2 c3 c4;have kt:=kt.below hb;have k7:=k7.below hb;have i7:=i7.ext (lx hb);have hk:=hk.below hb;have hBt:=nx hBt hb;have z9:=z9.below hb;obtain⟨c1,c2,c3,c4⟩:=kt.two;go_upto_region 15 with(fail)
      refine zB ?_;intro Wh hWh;have z11:jR Wh w6.heap.size (-t0):=by rw[hWh.out];exact jR.put kt hv
      have z9:jR Wh w3.heap.size (-s0):=by rw[hWh.out];exact z9.far oM kt dE _ _
      have k7':=Blk.at_ hWh ((k7.far oM _ _).far oM _ _);have hx':yO wg Wh:=by rw[hWh.out];exact kt.lext2 dE _ _
      have i7:=i7.ext hx';have hk:zIG w Wh a b:=hk.old (fun k hk0=>by rw[hWh.out];exact(Below.heap_setCell _ ⟨_,1,none⟩ _ k (by show k≠w6.heap.size;omega)).trans (Below.heap_setCell _ ⟨_,0,none⟩ _ k (by show k≠w6.heap.size;omega))) hx';have k7:=k7';have hBt:Below w.heap.size w Wh:=by rw[hWh.out];exact zT (zT hBt oM 0 _) oM 1 _
      have rt0:(-t0).natAbs<=max 1 a.natAbs:=by rw[Int.natAbs_neg];exact rt0
      clear c1 c2 c3 c4 hWh hb kt k7' hx' hc it hv;obtain⟨sn,sa,sl,sc,ks,is⟩:=z9;obtain⟨tn,ta,tl,tc,kt,it⟩:=z11;obtain⟨c1,c2,c3,c4⟩:=k7.two;obtain⟨d1,d2,d3,d4⟩:=ks.two;obtain⟨f1,f2,f3,f4⟩:=kt.two;have lkt:=kt.lt;have kr1:=hk.r1;have kr2:=hk.r2;have kr3:=hk.r3;refine zE rfl (RI Wh (Wh.heap.size) _ 35
        [E 0 64 (.agg #[.bool xn,.slice xa xl xc]),E 1 65 (.agg #[.bool sn,.slice sa sl sc]),E 2 66 (.agg #[.bool tn,.slice ta tl tc])] [] [⟨3,w.heap.size+1+1,fun w v=>zH w v ((x:Int))⟩,⟨4,w.heap.size+1+1+1,fun w v=>zH w v ((-s0))⟩,⟨5,w.heap.size+1+1+1+1,fun w v=>zH w v ((-t0))⟩]) kR RI.start ?fin2 ?steps2
      case steps2=>
       refine⟨?_,?_,?_,?_,?_,?_,trivial⟩<;>(intro L T wS hL hd hcl hI K hK;try refine zA rfl ?_)
       ·have zt:=hI.k 7 rfl kR
        have cc0:=hI.cell c1 oM aU;have cc1:=hI.cell c2 oM aU;exact xgu
       ·have zt:=hI.k 9 rfl kR
        have cc0:=hI.cell d1 oM aU;have cc1:=hI.cell d2 oM aU;exact xgu
       ·have zt:=hI.k 11 rfl kR
        have cc0:=hI.cell f1 oM aU;have cc1:=hI.cell f2 oM aU;exact xgu
       ·have zt:=hI.k 4 rfl kR
        have zv:=hI.e mm0 (hd 0);obtain⟨⟨xo,yo,zb,-⟩,-⟩:=hI.ex _ mm0;replace zb:Blk wS (w.heap.size+1+1) 35 #[xo,yo]:=zb;obtain⟨zk1,zk2,zk3,zk4⟩:=zb.two;go_simp;exact hK _ _ (hI.storeE ⟨3,w.heap.size+1+1,_⟩ mm0 rfl hL rfl (zH.ext i7 hI.lext))
       ·have zt:=hI.k 5 rfl kR
        have zv:=hI.e mm1 (hd 1);obtain⟨⟨xo,yo,zb,-⟩,-⟩:=hI.ex _ mm1;replace zb:Blk wS (w.heap.size+1+1+1) 35 #[xo,yo]:=zb;obtain⟨zk1,zk2,zk3,zk4⟩:=zb.two;go_simp;exact hK _ _ (hI.storeE ⟨4,w.heap.size+1+1+1,_⟩ mm1 rfl hL rfl (zH.ext is hI.lext))
       ·have zt:=hI.k 6 rfl kR
        have zv:=hI.e mm2 (hd 2);obtain⟨⟨xo,yo,zb,-⟩,-⟩:=hI.ex _ mm2;replace zb:Blk wS (w.heap.size+1+1+1+1) 35 #[xo,yo]:=zb;obtain⟨zk1,zk2,zk3,zk4⟩:=zb.two;go_simp;exact hK _ _ (hI.storeE ⟨5,w.heap.size+1+1+1+1,_⟩ mm2 rfl hL rfl (zH.ext it hI.lext))
      intro T Wz hI;obtain⟨⟨exz3,eyz3,ebz3,eiz3⟩,-⟩:=hI.ex _ mm0;replace ebz3:Blk Wz (w.heap.size+1+1) 35 #[exz3,eyz3]:=ebz3;replace eiz3:zH Wz (.agg #[exz3,eyz3]) ((x:Int)):=eiz3 rfl;obtain⟨⟨exz4,eyz4,ebz4,eiz4⟩,-⟩:=hI.ex _ mm1;replace ebz4:Blk Wz (w.heap.size+1+1+1) 35 #[exz4,eyz4]:=ebz4;replace eiz4:zH Wz (.agg #[exz4,eyz4]) ((-s0)):=eiz4 rfl;obtain⟨⟨exz5,eyz5,ebz5,eiz5⟩,-⟩:=hI.ex _ mm2;replace ebz5:Blk Wz (w.heap.size+1+1+1+1) 35 #[exz5,eyz5]:=ebz5;replace eiz5:zH Wz (.agg #[exz5,eyz5]) ((-t0)):=eiz5 rfl;have hT:=hI.finx kR kR;have hlWz:=hI.lext;have hbWz:=hI.bel (w.heap.size) oM aU;have holdWz:=hI.old;clear hI;simp only[zEH,zD1,E,EI,ptr,xgm,List.not_mem_nil,false_implies,implies_true,and_true,true_and,xgg,xgh,xgi,xgj]at hT;subst hT;go_wp2_with fail
      refine bodyPost_ret (zA5 rfl _ rfl rfl rfl ebz3 ebz4 ebz5 rfl rfl rfl) rfl ⟨_,_,_,(-s0),(-t0),rfl,HG.out ▸ eiz3,eiz4,eiz5,hsum,ps0,rt0,hBt.trans hbWz⟩
     ·have hc:¬ qJ b 0<0:=by unfold qJ;rw[if_neg hb0];split<;>omega
      obtain⟨k,hkk⟩:∃k,qJ b 0=k:=⟨_,rfl⟩;rw[hkk]at hc ⊢
      have hsum:(-s0)*a+t0*b=((Int.gcd a b:Nat):Int):=by
       rw[<-hsum];have:(b.natAbs:Int)=b:=by omega
       rw[this]
      clear hkk;go_upto_region 15 with(fail)
      obtain⟨sn,sa,sl,sc,ks,is⟩:=z9;obtain⟨tn,ta,tl,tc,kt,it⟩:=z11;obtain⟨c1,c2,c3,c4⟩:=k7.two;obtain⟨d1,d2,d3,d4⟩:=ks.two;obtain⟨f1,f2,f3,f4⟩:=kt.two;have lkt:=kt.lt;have kr1:=hk.r1;have kr2:=hk.r2;have kr3:=hk.r3;refine zE rfl (RI wf (wf.heap.size) _ 35
        [E 0 64 (.agg #[.bool xn,.slice xa xl xc]),E 1 65 (.agg #[.bool sn,.slice sa sl sc]),E 2 66 (.agg #[.bool tn,.slice ta tl tc])] [] [⟨3,w.heap.size+1+1,fun w v=>zH w v ((x:Int))⟩,⟨4,w.heap.size+1+1+1,fun w v=>zH w v ((-s0))⟩,⟨5,w.heap.size+1+1+1+1,fun w v=>zH w v (t0)⟩]) kR RI.start ?fin3 ?steps3
      case steps3=>
       refine⟨?_,?_,?_,?_,?_,?_,trivial⟩<;>(intro L T wS hL hd hcl hI K hK;try refine zA rfl ?_)
       ·have zt:=hI.k 7 rfl kR
        have cc0:=hI.cell c1 oM aU;have cc1:=hI.cell c2 oM aU;exact xgu
       ·have zt:=hI.k 9 rfl kR
        have cc0:=hI.cell d1 oM aU;have cc1:=hI.cell d2 oM aU;exact xgu
       ·have zt:=hI.k 11 rfl kR
        have cc0:=hI.cell f1 oM aU;have cc1:=hI.cell f2 oM aU;exact xgu
       ·have zt:=hI.k 4 rfl kR
        have zv:=hI.e mm0 (hd 0);obtain⟨⟨xo,yo,zb,-⟩,-⟩:=hI.ex _ mm0;replace zb:Blk wS (w.heap.size+1+1) 35 #[xo,yo]:=zb;obtain⟨zk1,zk2,zk3,zk4⟩:=zb.two;go_simp;exact hK _ _ (hI.storeE ⟨3,w.heap.size+1+1,_⟩ mm0 rfl hL rfl (zH.ext i7 hI.lext))
       ·have zt:=hI.k 5 rfl kR
        have zv:=hI.e mm1 (hd 1);obtain⟨⟨xo,yo,zb,-⟩,-⟩:=hI.ex _ mm1;replace zb:Blk wS (w.heap.size+1+1+1) 35 #[xo,yo]:=zb;obtain⟨zk1,zk2,zk3,zk4⟩:=zb.two;go_simp;exact hK _ _ (hI.storeE ⟨4,w.heap.size+1+1+1,_⟩ mm1 rfl hL rfl (zH.ext is hI.lext))
       ·have zt:=hI.k 6 rfl kR
        have zv:=hI.e mm2 (hd 2);obtain⟨⟨xo,yo,zb,-⟩,-⟩:=hI.ex _ mm2;replace zb:Blk wS (w.heap.size+1+1+1+1) 35 #[xo,yo]:=zb;obtain⟨zk1,zk2,zk3,zk4⟩:=zb.two;go_simp;exact hK _ _ (hI.storeE ⟨5,w.heap.size+1+1+1+1,_⟩ mm2 rfl hL rfl (zH.ext it hI.lext))
      intro T Wz hI;obtain⟨⟨exz3,eyz3,ebz3,eiz3⟩,-⟩:=hI.ex _ mm0;replace ebz3:Blk Wz (w.heap.size+1+1) 35 #[exz3,eyz3]:=ebz3;replace eiz3:zH Wz (.agg #[exz3,eyz3]) ((x:Int)):=eiz3 rfl;obtain⟨⟨exz4,eyz4,ebz4,eiz4⟩,-⟩:=hI.ex _ mm1;replace ebz4:Blk Wz (w.heap.size+1+1+1) 35 #[exz4,eyz4]:=ebz4;replace eiz4:zH Wz (.agg #[exz4,eyz4]) ((-s0)):=eiz4 rfl;obtain⟨⟨exz5,eyz5,ebz5,eiz5⟩,-⟩:=hI.ex _ mm2;replace ebz5:Blk Wz (w.heap.size+1+1+1+1) 35 #[exz5,eyz5]:=ebz5;replace eiz5:zH Wz (.agg #[exz5,eyz5]) (t0):=eiz5 rfl;have hT:=hI.finx kR kR;have hlWz:=hI.lext;have hbWz:=hI.bel (w.heap.size) oM aU;have holdWz:=hI.old;clear hI;simp only[zEH,zD1,E,EI,ptr,xgm,List.not_mem_nil,false_implies,implies_true,and_true,true_and,xgg,xgh,xgi,xgj]at hT;subst hT;go_wp2_with fail
      refine bodyPost_ret (zA5 rfl _ rfl rfl rfl ebz3 ebz4 ebz5 rfl rfl rfl) rfl ⟨_,_,_,(-s0),t0,rfl,HG.out ▸ eiz3,eiz4,eiz5,hsum,ps0,rt0,hBt.trans hbWz⟩
    ·have hc:¬ qJ a 0<0:=by unfold qJ;rw[if_neg ha0];split<;>omega
     obtain⟨k,hkk⟩:∃k,qJ a 0=k:=⟨_,rfl⟩;rw[hkk]at hc ⊢
     have hsum:s0*a+t0*(b.natAbs:Int)=((Int.gcd a b:Nat):Int):=by
      rw[<-hsum];have:(a.natAbs:Int)=a:=by omega
      rw[this]
     clear hkk;obtain⟨bn',ba',bl',bc',kb,ib⟩:=hk.b;obtain⟨c1,c2,c3,c4⟩:=kb.two;go_wp2_with fail
     refine(qU _ _ wc ib.weak).mono ?_;rintro e wf ⟨rfl,hb⟩;have k7:=k7.below hb;have i7:=i7.ext (lx hb);have hk:=hk.below hb;have hBt:=nx hBt hb;have z9:=z9.below hb;have z11:=z11.below hb;clear c1 c2 c3 c4 hb kb ib;by_cases hb0:b<0
     ·have hc:qJ b 0=-1:=by unfold qJ;rw[if_pos hb0]
      have hsum:s0*a+-t0*b=((Int.gcd a b:Nat):Int):=by
       rw[<-hsum];have:(b.natAbs:Int)=-b:=by omega
       rw[this,Int.neg_mul_comm t0 b]
      rw[hc];obtain⟨tn,ta,tl,tc,kt,it⟩:=z11;obtain⟨c1,c2,c3,c4⟩:=kt.two;go_wp2_with fail
      refine(jN _ t0 wf it.weak SR.out).mono ?_;rintro e wg ⟨v,rfl,hv,hb⟩;obtain⟨un,ua,ul,uc,ux,rfl,hv'⟩:=id hv;have HU:=xgw hv';clear hv' c1 c2 c3 c4;have kt:=kt.below hb;have k7:=k7.below hb;have i7:=i7.ext (lx hb);have hk:=hk.below hb;have hBt:=nx hBt hb;have z9:=z9.below hb;obtain⟨c1,c2,c3,c4⟩:=kt.two;go_upto_region 15 with(fail)
      refine zB ?_;intro Wh hWh;have z11:jR Wh w6.heap.size (-t0):=by rw[hWh.out];exact jR.put kt hv
      have z9:jR Wh w3.heap.size s0:=by rw[hWh.out];exact z9.far oM kt dE _ _
      have k7':=Blk.at_ hWh ((k7.far oM _ _).far oM _ _);have hx':yO wg Wh:=by rw[hWh.out];exact kt.lext2 dE _ _
      have i7:=i7.ext hx';have hk:zIG w Wh a b:=hk.old (fun k hk0=>by rw[hWh.out];exact(Below.heap_setCell _ ⟨_,1,none⟩ _ k (by show k≠w6.heap.size;omega)).trans (Below.heap_setCell _ ⟨_,0,none⟩ _ k (by show k≠w6.heap.size;omega))) hx';have k7:=k7';have hBt:Below w.heap.size w Wh:=by rw[hWh.out];exact zT (zT hBt oM 0 _) oM 1 _
      have rt0:(-t0).natAbs<=max 1 a.natAbs:=by rw[Int.natAbs_neg];exact rt0
      clear c1 c2 c3 c4 hWh hb kt k7' hx' hc it hv;obtain⟨sn,sa,sl,sc,ks,is⟩:=z9;obtain⟨tn,ta,tl,tc,kt,it⟩:=z11;obtain⟨c1,c2,c3,c4⟩:=k7.two;obtain⟨d1,d2,d3,d4⟩:=ks.two;obtain⟨f1,f2,f3,f4⟩:=kt.two;have lkt:=kt.lt;have kr1:=hk.r1;have kr2:=hk.r2;have kr3:=hk.r3;refine zE rfl (RI Wh (Wh.heap.size) _ 35
        [E 0 64 (.agg #[.bool xn,.slice xa xl xc]),E 1 65 (.agg #[.bool sn,.slice sa sl sc]),E 2 66 (.agg #[.bool tn,.slice ta tl tc])] [] [⟨3,w.heap.size+1+1,fun w v=>zH w v ((x:Int))⟩,⟨4,w.heap.size+1+1+1,fun w v=>zH w v (s0)⟩,⟨5,w.heap.size+1+1+1+1,fun w v=>zH w v ((-t0))⟩]) kR RI.start ?fin4 ?steps4
      case steps4=>
       refine⟨?_,?_,?_,?_,?_,?_,trivial⟩<;>(intro L T wS hL hd hcl hI K hK;try refine zA rfl ?_)
       ·have zt:=hI.k 7 rfl kR
        have cc0:=hI.cell c1 oM aU;have cc1:=hI.cell c2 oM aU;exact xgu
       ·have zt:=hI.k 9 rfl kR
        have cc0:=hI.cell d1 oM aU;have cc1:=hI.cell d2 oM aU;exact xgu
       ·have zt:=hI.k 11 rfl kR
        have cc0:=hI.cell f1 oM aU;have cc1:=hI.cell f2 oM aU;exact xgu
       ·have zt:=hI.k 4 rfl kR
        have zv:=hI.e mm0 (hd 0);obtain⟨⟨xo,yo,zb,-⟩,-⟩:=hI.ex _ mm0;replace zb:Blk wS (w.heap.size+1+1) 35 #[xo,yo]:=zb;obtain⟨zk1,zk2,zk3,zk4⟩:=zb.two;go_simp;exact hK _ _ (hI.storeE ⟨3,w.heap.size+1+1,_⟩ mm0 rfl hL rfl (zH.ext i7 hI.lext))
       ·have zt:=hI.k 5 rfl kR
        have zv:=hI.e mm1 (hd 1);obtain⟨⟨xo,yo,zb,-⟩,-⟩:=hI.ex _ mm1;replace zb:Blk wS (w.heap.size+1+1+1) 35 #[xo,yo]:=zb;obtain⟨zk1,zk2,zk3,zk4⟩:=zb.two;go_simp;exact hK _ _ (hI.storeE ⟨4,w.heap.size+1+1+1,_⟩ mm1 rfl hL rfl (zH.ext is hI.lext))
       ·have zt:=hI.k 6 rfl kR
        have zv:=hI.e mm2 (hd 2);obtain⟨⟨xo,yo,zb,-⟩,-⟩:=hI.ex _ mm2;replace zb:Blk wS (w.heap.size+1+1+1+1) 35 #[xo,yo]:=zb;obtain⟨zk1,zk2,zk3,zk4⟩:=zb.two;go_simp;exact hK _ _ (hI.storeE ⟨5,w.heap.size+1+1+1+1,_⟩ mm2 rfl hL rfl (zH.ext it hI.lext))
      intro T Wz hI;obtain⟨⟨exz3,eyz3,ebz3,eiz3⟩,-⟩:=hI.ex _ mm0;replace ebz3:Blk Wz (w.heap.size+1+1) 35 #[exz3,eyz3]:=ebz3;replace eiz3:zH Wz (.agg #[exz3,eyz3]) ((x:Int)):=eiz3 rfl;obtain⟨⟨exz4,eyz4,ebz4,eiz4⟩,-⟩:=hI.ex _ mm1;replace ebz4:Blk Wz (w.heap.size+1+1+1) 35 #[exz4,eyz4]:=ebz4;replace eiz4:zH Wz (.agg #[exz4,eyz4]) (s0):=eiz4 rfl;obtain⟨⟨exz5,eyz5,ebz5,eiz5⟩,-⟩:=hI.ex _ mm2;replace ebz5:Blk Wz (w.heap.size+1+1+1+1) 35 #[exz5,eyz5]:=ebz5;replace eiz5:zH Wz (.agg #[exz5,eyz5]) ((-t0)):=eiz5 rfl;have hT:=hI.finx kR kR;have hlWz:=hI.lext;have hbWz:=hI.bel (w.heap.size) oM aU;have holdWz:=hI.old;clear hI;simp only[zEH,zD1,E,EI,ptr,xgm,List.not_mem_nil,false_implies,implies_true,and_true,true_and,xgg,xgh,xgi,xgj]at hT;subst hT;go_wp2_with fail
      refine bodyPost_ret (zA5 rfl _ rfl rfl rfl ebz3 ebz4 ebz5 rfl rfl rfl) rfl ⟨_,_,_,s0,(-t0),rfl,HG.out ▸ eiz3,eiz4,eiz5,hsum,ps0,rt0,hBt.trans hbWz⟩
     ·have hc:¬ qJ b 0<0:=by unfold qJ;rw[if_neg hb0];split<;>omega
      obtain⟨k,hkk⟩:∃k,qJ b 0=k:=⟨_,rfl⟩;rw[hkk]at hc ⊢
      have hsum:s0*a+t0*b=((Int.gcd a b:Nat):Int):=by
       rw[<-hsum];have:(b.natAbs:Int)=b:=by omega
       rw[this]
      clear hkk;go_upto_region 15 with(fail)
      obtain⟨sn,sa,sl,sc,ks,is⟩:=z9;obtain⟨tn,ta,tl,tc,kt,it⟩:=z11;obtain⟨c1,c2,c3,c4⟩:=k7.two;obtain⟨d1,d2,d3,d4⟩:=ks.two;obtain⟨f1,f2,f3,f4⟩:=kt.two;have lkt:=kt.lt;have kr1:=hk.r1;have kr2:=hk.r2;have kr3:=hk.r3;refine zE rfl (RI wf (wf.heap.size) _ 35
        [E 0 64 (.agg #[.bool xn,.slice xa xl xc]),E 1 65 (.agg #[.bool sn,.slice sa sl sc]),E 2 66 (.agg #[.bool tn,.slice ta tl tc])] [] [⟨3,w.heap.size+1+1,fun w v=>zH w v ((x:Int))⟩,⟨4,w.heap.size+1+1+1,fun w v=>zH w v (s0)⟩,⟨5,w.heap.size+1+1+1+1,fun w v=>zH w v (t0)⟩]) kR RI.start ?fin5 ?steps5
      case steps5=>
       refine⟨?_,?_,?_,?_,?_,?_,trivial⟩<;>(intro L T wS hL hd hcl hI K hK;try refine zA rfl ?_)
       ·have zt:=hI.k 7 rfl kR
        have cc0:=hI.cell c1 oM aU;have cc1:=hI.cell c2 oM aU;exact xgu
       ·have zt:=hI.k 9 rfl kR
        have cc0:=hI.cell d1 oM aU;have cc1:=hI.cell d2 oM aU;exact xgu
       ·have zt:=hI.k 11 rfl kR
        have cc0:=hI.cell f1 oM aU;have cc1:=hI.cell f2 oM aU;exact xgu
       ·have zt:=hI.k 4 rfl kR
        have zv:=hI.e mm0 (hd 0);obtain⟨⟨xo,yo,zb,-⟩,-⟩:=hI.ex _ mm0;replace zb:Blk wS (w.heap.size+1+1) 35 #[xo,yo]:=zb;obtain⟨zk1,zk2,zk3,zk4⟩:=zb.two;go_simp;exact hK _ _ (hI.storeE ⟨3,w.heap.size+1+1,_⟩ mm0 rfl hL rfl (zH.ext i7 hI.lext))
       ·have zt:=hI.k 5 rfl kR
        have zv:=hI.e mm1 (hd 1);obtain⟨⟨xo,yo,zb,-⟩,-⟩:=hI.ex _ mm1;replace zb:Blk wS (w.heap.size+1+1+1) 35 #[xo,yo]:=zb;obtain⟨zk1,zk2,zk3,zk4⟩:=zb.two;go_simp;exact hK _ _ (hI.storeE ⟨4,w.heap.size+1+1+1,_⟩ mm1 rfl hL rfl (zH.ext is hI.lext))
       ·have zt:=hI.k 6 rfl kR
        have zv:=hI.e mm2 (hd 2);obtain⟨⟨xo,yo,zb,-⟩,-⟩:=hI.ex _ mm2;replace zb:Blk wS (w.heap.size+1+1+1+1) 35 #[xo,yo]:=zb;obtain⟨zk1,zk2,zk3,zk4⟩:=zb.two;go_simp;exact hK _ _ (hI.storeE ⟨5,w.heap.size+1+1+1+1,_⟩ mm2 rfl hL rfl (zH.ext it hI.lext))
      intro T Wz hI;obtain⟨⟨exz3,eyz3,ebz3,eiz3⟩,-⟩:=hI.ex _ mm0;replace ebz3:Blk Wz (w.heap.size+1+1) 35 #[exz3,eyz3]:=ebz3;replace eiz3:zH Wz (.agg #[exz3,eyz3]) ((x:Int)):=eiz3 rfl;obtain⟨⟨exz4,eyz4,ebz4,eiz4⟩,-⟩:=hI.ex _ mm1;replace ebz4:Blk Wz (w.heap.size+1+1+1) 35 #[exz4,eyz4]:=ebz4;replace eiz4:zH Wz (.agg #[exz4,eyz4]) (s0):=eiz4 rfl;obtain⟨⟨exz5,eyz5,ebz5,eiz5⟩,-⟩:=hI.ex _ mm2;replace ebz5:Blk Wz (w.heap.size+1+1+1+1) 35 #[exz5,eyz5]:=ebz5;replace eiz5:zH Wz (.agg #[exz5,eyz5]) (t0):=eiz5 rfl;have hT:=hI.finx kR kR;have hlWz:=hI.lext;have hbWz:=hI.bel (w.heap.size) oM aU;have holdWz:=hI.old;clear hI;simp only[zEH,zD1,E,EI,ptr,xgm,List.not_mem_nil,false_implies,implies_true,and_true,true_and,xgg,xgh,xgi,xgj]at hT;subst hT;go_wp2_with fail
      refine bodyPost_ret (zA5 rfl _ rfl rfl rfl ebz3 ebz4 ebz5 rfl rfl rfl) rfl ⟨_,_,_,s0,t0,rfl,HG.out ▸ eiz3,eiz4,eiz5,hsum,ps0,rt0,hBt.trans hbWz⟩
  ·have hy0:0<y:=Nat.pos_of_ne_zero h0
   have hc:qJ (y:Int) 0=1:=by unfold qJ;rw[if_neg oM,if_pos oM]
   rw[hc];have hy0':(y:Int)≠0:=by omega
   have SX:Sm (x:Int):=by
    have hxb:=HN.out.xb;rcases Nat.le_total a.natAbs b.natAbs with hab|hab
    ·exact HS2.out.sm.mono (by rw[Int.natAbs_natCast];omega)
    ·exact HS1.out.sm.mono (by rw[Int.natAbs_natCast];omega)
   have SY:Sm (y:Int):=HS2.out.sm.mono (by have:=HN.out.yb;rw[Int.natAbs_natCast];exact this);have SX':=xgv SX;have SY':=xgv SY;clear SX SY;go_wp2_with fail
   refine(jT _ _ (x:Int) (y:Int) wa i7.weak i8.weak SX'.out SY'.out hy0').mono ?_;rintro e w4 ⟨q0,r0,rfl,hq,hr,hb4⟩;obtain⟨qn,qa,ql,qc,qx,rfl,hq'⟩:=id hq;obtain⟨rn,ra,rl,rc,rx,rfl,hr'⟩:=id hr;have HQ':=xgw hq';have HR':=xgw hr';clear hq' hr' hc hy0';go_upto_region 6 with(fail)
   refine zB ?_;intro W5 hW5;obtain⟨hB5,T13,T14,hs5⟩:=qI hW5;have k7:=(k7.below hb4).below hB5;have k8:=(k8.below hb4).below hB5;have i8:=(i8.ext (lx hb4)).ext (lx hB5);have hk:=(hk.below hb4).below hB5;have z9:=(z9.below hb4).below hB5;have z10:=(z10.below hb4).below hB5;have z11:=(z11.below hb4).below hB5;have z12:=(z12.below hb4).below hB5;have hBt:=nx (nx hBt hb4) hB5;have hq:=hq.ext (lx hB5);have hr:=hr.ext (lx hB5);have hs4:=hb4.size;have l13:w6.heap.size+1<w4.heap.size:=by omega
   clear c1 c2 c3 c4 d1 d2 d3 d4 hW5 hb4 hB5 hsa hs4 lt12;obtain⟨d1,d2,d3,d4⟩:=k8.two;obtain⟨f1,f2,f3,f4⟩:=T14.two;refine zE rfl (RI W5 (W5.heap.size) _ 35
     [E 0 34 (.agg #[.bool yn,.slice ya yl yc]),E 1 35 (.agg #[.bool rn,.slice ra rl rc])] [] [⟨2,ca4,fun w v=>zH w v ((y:Int))⟩,⟨3,ca5,fun w v=>zH w v (((x:Int)%(y:Int)))⟩]) kR RI.start ?fin6 ?steps6
   case steps6=>
    refine⟨?_,?_,?_,?_,trivial⟩<;>(intro L T wS hL hd hcl hI K hK;try refine zA rfl ?_)
    ·have zt:=hI.k 8 rfl kR
     have zl:L[3]?≠some true:=fun hh=>by have:=hcl 3 _ rfl hh 0 kR;rw[hL]at this;cases this
     have cc0:=hI.cellE _ mm1 d1 zl;have cc1:=hI.cellE _ mm1 d2 zl;dsimp only at cc0;dsimp only at cc1;exact xgu
    ·have zt:=hI.k 14 rfl kR
     have cc0:=hI.cell f1 oM aU;have cc1:=hI.cell f2 oM aU;exact xgu
    ·have zt:=hI.k 7 rfl kR
     have zv:=hI.e mm0 (hd 0);obtain⟨⟨xo,yo,zb,-⟩,-⟩:=hI.ex _ mm0;replace zb:Blk wS (ca4) 35 #[xo,yo]:=zb;obtain⟨zk1,zk2,zk3,zk4⟩:=zb.two;go_simp;exact hK _ _ (hI.storeE ⟨2,ca4,_⟩ mm0 rfl hL rfl (zH.ext i8 hI.lext))
    ·have zt:=hI.k 8 rfl kR
     have zv:=hI.e mm1 (hd 1);obtain⟨⟨xo,yo,zb,-⟩,-⟩:=hI.ex _ mm1;replace zb:Blk wS (ca5) 35 #[xo,yo]:=zb;obtain⟨zk1,zk2,zk3,zk4⟩:=zb.two;go_simp;exact hK _ _ (hI.storeE ⟨3,ca5,_⟩ mm1 rfl hL rfl (zH.ext hr hI.lext))
   intro T W8 hI;obtain⟨⟨exa2,eya2,eba2,eia2⟩,-⟩:=hI.ex _ mm0;replace eba2:Blk W8 (ca4) 35 #[exa2,eya2]:=eba2;replace eia2:zH W8 (.agg #[exa2,eya2]) ((y:Int)):=eia2 rfl;obtain⟨⟨exa3,eya3,eba3,eia3⟩,-⟩:=hI.ex _ mm1;replace eba3:Blk W8 (ca5) 35 #[exa3,eya3]:=eba3;replace eia3:zH W8 (.agg #[exa3,eya3]) (((x:Int)%(y:Int))):=eia3 rfl;have hT:=hI.finx kR kR;have hlW8:=hI.lext;have hbW8:=hI.bel (w.heap.size) oM aU;have holdW8:=hI.old;clear hI;simp only[zEH,zD1,E,EI,ptr,xgm,List.not_mem_nil,false_implies,implies_true,and_true,true_and,xgg,xgh,xgi,xgj]at hT;subst hT;have hk:zIG w W8 a b:=hk.old (fun k hk0=>holdW8 _ oM aU) hlW8;have z9:=z9.old (holdW8 _ oM aU) hlW8;have z10:=z10.old (holdW8 _ oM aU) hlW8;have z11:=z11.old (holdW8 _ oM aU) hlW8;have z12:=z12.old (holdW8 _ oM aU) hlW8;have z13:=(jR.mk T13 hq).old (holdW8 _ oM aU) hlW8;have z7:=jR.mk eba2 eia2;have z8:=jR.mk eba3 eia3;have hBt:=hBt.trans hbW8;have eq1:(x:Int)/(y:Int)=((x/y:Nat):Int):=rfl;rw[eq1]at z13;have hst:=HN.out.step hy0;have SP:qF (Sm (sgn σ p)):=⟨HS2.out.sm1 (by have:=HN.out.pb;rw[zZ];omega)⟩;have SP':qF (Sm (sgn (!σ) p')):=⟨HS2.out.sm1 (by have:=HN.out.pb';rw[zZ];omega)⟩;have SR:qF (Sm (sgn (!σ) r)):=⟨HS1.out.sm1 (by have:=HN.out.rb;rw[zZ];omega)⟩;have SR':qF (Sm (sgn σ r')):=⟨HS1.out.sm1 (by have:=HN.out.rb';rw[zZ];omega)⟩;have SQ:qF (Sm ((x/y:Nat):Int)):=⟨SX'.out.mono (by simp only[Int.natAbs_natCast];exact Nat.div_le_self _ _)⟩;have SQP:qF (Sm (((x/y:Nat):Int)*sgn (!σ) p')):=⟨HS2.out.sm1 (by have:=hst.pb';rw[Int.natAbs_mul,zZ,Int.natAbs_natCast];omega)⟩;have SQR:qF (Sm (((x/y:Nat):Int)*sgn σ r')):=⟨HS1.out.sm1 (by have:=hst.rb';rw[Int.natAbs_mul,zZ,Int.natAbs_natCast];omega)⟩;have HST:=xgw hst;clear hst;go_upto_region 7 with(fail)
   obtain⟨sn,sa,sl,sc,ks,is⟩:=z9;obtain⟨nn,na,nl,nc,kn,jn⟩:=z10;obtain⟨en,ea,el,ec,ke,je⟩:=z13;obtain⟨c1,c2,c3,c4⟩:=ks.two;obtain⟨d1,d2,d3,d4⟩:=kn.two;obtain⟨f1,f2,f3,f4⟩:=ke.two;have lke:=ke.lt;refine zE rfl (RI W8 (W8.heap.size) _ 35
     [E 0 36 (.agg #[.bool nn,.slice na nl nc]),E 1 37 (.agg #[.bool sn,.slice sa sl sc]),E 2 38 (.agg #[.bool en,.slice ea el ec]),E 3 39 (.agg #[.bool nn,.slice na nl nc]),EI 4 40 (((x/y:Nat):Int)*(sgn (!σ) p')),EI 5 41 ((sgn σ p)-((x/y:Nat):Int)*(sgn (!σ) p'))] [] [⟨6,w3.heap.size,fun w v=>zH w v ((sgn (!σ) p'))⟩,⟨7,w3.heap.size+1,fun w v=>zH w v ((sgn σ p)-((x/y:Nat):Int)*(sgn (!σ) p'))⟩]) kR RI.start ?fin7 ?steps7
   case steps7=>
    refine⟨?_,?_,?_,?_,?_,?_,?_,?_,trivial⟩<;>(intro L T wS hL hd hcl hI K hK;try refine zA rfl ?_)
    ·have zt:=hI.k 10 rfl kR
     have zl:L[7]?≠some true:=fun hh=>by have:=hcl 7 _ rfl hh 0 kR;rw[hL]at this;cases this
     have cc0:=hI.cellE _ mm1 d1 zl;have cc1:=hI.cellE _ mm1 d2 zl;dsimp only at cc0;dsimp only at cc1;exact xgu
    ·have zt:=hI.k 9 rfl kR
     have zl:L[6]?≠some true:=fun hh=>by have:=hcl 6 _ rfl hh 1 kR;rw[hL]at this;cases this
     have cc0:=hI.cellE _ mm0 c1 zl;have cc1:=hI.cellE _ mm0 c2 zl;dsimp only at cc0;dsimp only at cc1;exact xgu
    ·have zt:=hI.k 13 rfl kR
     have cc0:=hI.cell f1 oM aU;have cc1:=hI.cell f2 oM aU;exact xgu
    ·have zt:=hI.k 10 rfl kR
     have zl:L[7]?≠some true:=fun hh=>by have:=hcl 7 _ rfl hh 3 kR;rw[hL]at this;cases this
     have cc0:=hI.cellE _ mm1 d1 zl;have cc1:=hI.cellE _ mm1 d2 zl;dsimp only at cc0;dsimp only at cc1;exact xgu
    ·have zt2:=hI.e mm2 (hd 2)
     have zt3:=hI.e mm3 (hd 3);go_simp;refine(jM _ _ ((x/y:Nat):Int) (sgn (!σ) p') _ (je.ext hI.lext).weak (jn.ext hI.lext).weak SQ.out SP'.out).mono ?_;exact xgo
    ·have zt1:=hI.e mm1 (hd 1)
     obtain⟨v4,zt4,h4⟩:=hI.vi mm4 (hd 4);go_simp;refine(zID _ _ (sgn σ p) (((x/y:Nat):Int)*(sgn (!σ) p')) _ (is.ext hI.lext).weak h4.weak SP.out SQP.out).mono ?_;exact xgo
    ·have zt:=hI.k 9 rfl kR
     have zv:=hI.e mm0 (hd 0);obtain⟨⟨xo,yo,zb,-⟩,-⟩:=hI.ex _ mm0;replace zb:Blk wS (w3.heap.size) 35 #[xo,yo]:=zb;obtain⟨zk1,zk2,zk3,zk4⟩:=zb.two;go_simp;exact hK _ _ (hI.storeE ⟨6,w3.heap.size,_⟩ mm0 rfl hL rfl (zH.ext jn hI.lext))
    ·have zt:=hI.k 10 rfl kR
     obtain⟨v,zv,hv⟩:=hI.vi mm5 (hd 5);obtain⟨vneg,vao,vlen,vcap,vls,rfl,hv'⟩:=id hv;obtain⟨⟨xo,yo,zb,-⟩,-⟩:=hI.ex _ mm1;replace zb:Blk wS (w3.heap.size+1) 35 #[xo,yo]:=zb;obtain⟨zk1,zk2,zk3,zk4⟩:=zb.two;go_simp;exact hK _ _ (hI.storeE ⟨7,w3.heap.size+1,_⟩ mm1 rfl hL rfl hv)
   intro T W9 hI;obtain⟨⟨exb6,eyb6,ebb6,eib6⟩,-⟩:=hI.ex _ mm0;replace ebb6:Blk W9 (w3.heap.size) 35 #[exb6,eyb6]:=ebb6;replace eib6:zH W9 (.agg #[exb6,eyb6]) ((sgn (!σ) p')):=eib6 rfl;obtain⟨⟨exb7,eyb7,ebb7,eib7⟩,-⟩:=hI.ex _ mm1;replace ebb7:Blk W9 (w3.heap.size+1) 35 #[exb7,eyb7]:=ebb7;replace eib7:zH W9 (.agg #[exb7,eyb7]) ((sgn σ p)-((x/y:Nat):Int)*(sgn (!σ) p')):=eib7 rfl;have hT:=hI.finx kR kR;have hlW9:=hI.lext;have hbW9:=hI.bel (w.heap.size) oM aU;have holdW9:=hI.old;clear hI;simp only[zEH,zD1,E,EI,ptr,xgm,List.not_mem_nil,false_implies,implies_true,and_true,true_and,xgg,xgh,xgi,xgj]at hT;obtain⟨vb4,hb4,vb5,hb5,rfl⟩:=hT;rw[(zCK σ p (x/y) p')]at eib7;have z13:=jR.mk ke je;have hk:zIG w W9 a b:=hk.old (fun k hk0=>holdW9 _ oM aU) hlW9;have z7:=z7.old (holdW9 _ oM aU) hlW9;have z8:=z8.old (holdW9 _ oM aU) hlW9;have z13:=z13.old (holdW9 _ oM aU) hlW9;have z11:=z11.old (holdW9 _ oM aU) hlW9;have z12:=z12.old (holdW9 _ oM aU) hlW9;have z9:=jR.mk ebb6 eib6;have z10:=jR.mk ebb7 eib7;have hBt:=hBt.trans hbW9;clear c1 c2 c3 c4 d1 d2 d3 d4 f1 f2 f3 f4 holdW9 hlW9 hbW9;have er:sgn (!σ) r-((x/y:Nat):Int)*sgn σ r'=sgn (!σ) (r+x/y*r'):=by
    have:=zCK (!σ) r (x/y) r';rwa[Bool.not_not]at this
   go_upto_region 8 with(fail)
   obtain⟨sn,sa,sl,sc,ks,is⟩:=z11;obtain⟨nn,na,nl,nc,kn,jn⟩:=z12;obtain⟨en,ea,el,ec,ke,je⟩:=z13;obtain⟨c1,c2,c3,c4⟩:=ks.two;obtain⟨d1,d2,d3,d4⟩:=kn.two;obtain⟨f1,f2,f3,f4⟩:=ke.two;have lke:=ke.lt;refine zE rfl (RI W9 (W9.heap.size) _ 35
     [E 0 42 (.agg #[.bool nn,.slice na nl nc]),E 1 43 (.agg #[.bool sn,.slice sa sl sc]),E 2 44 (.agg #[.bool en,.slice ea el ec]),E 3 45 (.agg #[.bool nn,.slice na nl nc]),EI 4 46 (((x/y:Nat):Int)*(sgn σ r')),EI 5 47 ((sgn (!σ) r)-((x/y:Nat):Int)*(sgn σ r'))] [] [⟨6,w6.heap.size,fun w v=>zH w v ((sgn σ r'))⟩,⟨7,w6.heap.size+1,fun w v=>zH w v ((sgn (!σ) r)-((x/y:Nat):Int)*(sgn σ r'))⟩]) kR RI.start ?fin8 ?steps8
   case steps8=>
    refine⟨?_,?_,?_,?_,?_,?_,?_,?_,trivial⟩<;>(intro L T wS hL hd hcl hI K hK;try refine zA rfl ?_)
    ·have zt:=hI.k 12 rfl kR
     have zl:L[7]?≠some true:=fun hh=>by have:=hcl 7 _ rfl hh 0 kR;rw[hL]at this;cases this
     have cc0:=hI.cellE _ mm1 d1 zl;have cc1:=hI.cellE _ mm1 d2 zl;dsimp only at cc0;dsimp only at cc1;exact xgu
    ·have zt:=hI.k 11 rfl kR
     have zl:L[6]?≠some true:=fun hh=>by have:=hcl 6 _ rfl hh 1 kR;rw[hL]at this;cases this
     have cc0:=hI.cellE _ mm0 c1 zl;have cc1:=hI.cellE _ mm0 c2 zl;dsimp only at cc0;dsimp only at cc1;exact xgu
    ·have zt:=hI.k 13 rfl kR
     have cc0:=hI.cell f1 oM aU;have cc1:=hI.cell f2 oM aU;exact xgu
    ·have zt:=hI.k 12 rfl kR
     have zl:L[7]?≠some true:=fun hh=>by have:=hcl 7 _ rfl hh 3 kR;rw[hL]at this;cases this
     have cc0:=hI.cellE _ mm1 d1 zl;have cc1:=hI.cellE _ mm1 d2 zl;dsimp only at cc0;dsimp only at cc1;exact xgu
    ·have zt2:=hI.e mm2 (hd 2)
     have zt3:=hI.e mm3 (hd 3);go_simp;refine(jM _ _ ((x/y:Nat):Int) (sgn σ r') _ (je.ext hI.lext).weak (jn.ext hI.lext).weak SQ.out SR'.out).mono ?_;exact xgo
    ·have zt1:=hI.e mm1 (hd 1)
     obtain⟨v4,zt4,h4⟩:=hI.vi mm4 (hd 4);go_simp;refine(zID _ _ (sgn (!σ) r) (((x/y:Nat):Int)*(sgn σ r')) _ (is.ext hI.lext).weak h4.weak SR.out SQR.out).mono ?_;exact xgo
    ·have zt:=hI.k 11 rfl kR
     have zv:=hI.e mm0 (hd 0);obtain⟨⟨xo,yo,zb,-⟩,-⟩:=hI.ex _ mm0;replace zb:Blk wS (w6.heap.size) 35 #[xo,yo]:=zb;obtain⟨zk1,zk2,zk3,zk4⟩:=zb.two;go_simp;exact hK _ _ (hI.storeE ⟨6,w6.heap.size,_⟩ mm0 rfl hL rfl (zH.ext jn hI.lext))
    ·have zt:=hI.k 12 rfl kR
     obtain⟨v,zv,hv⟩:=hI.vi mm5 (hd 5);obtain⟨vneg,vao,vlen,vcap,vls,rfl,hv'⟩:=id hv;obtain⟨⟨xo,yo,zb,-⟩,-⟩:=hI.ex _ mm1;replace zb:Blk wS (w6.heap.size+1) 35 #[xo,yo]:=zb;obtain⟨zk1,zk2,zk3,zk4⟩:=zb.two;go_simp;exact hK _ _ (hI.storeE ⟨7,w6.heap.size+1,_⟩ mm1 rfl hL rfl hv)
   intro T WA hI;obtain⟨⟨exc6,eyc6,ebc6,eic6⟩,-⟩:=hI.ex _ mm0;replace ebc6:Blk WA (w6.heap.size) 35 #[exc6,eyc6]:=ebc6;replace eic6:zH WA (.agg #[exc6,eyc6]) ((sgn σ r')):=eic6 rfl;obtain⟨⟨exc7,eyc7,ebc7,eic7⟩,-⟩:=hI.ex _ mm1;replace ebc7:Blk WA (w6.heap.size+1) 35 #[exc7,eyc7]:=ebc7;replace eic7:zH WA (.agg #[exc7,eyc7]) ((sgn (!σ) r)-((x/y:Nat):Int)*(sgn σ r')):=eic7 rfl;have hT:=hI.finx kR kR;have hlWA:=hI.lext;have hbWA:=hI.bel (w.heap.size) oM aU;have holdWA:=hI.old;clear hI;simp only[zEH,zD1,E,EI,ptr,xgm,List.not_mem_nil,false_implies,implies_true,and_true,true_and,xgg,xgh,xgi,xgj]at hT;obtain⟨vc4,hc4,vc5,hc5,rfl⟩:=hT;rw[er]at eic7;have z13:=jR.mk ke je;have hk:zIG w WA a b:=hk.old (fun k hk0=>holdWA _ oM aU) hlWA;have z7:=z7.old (holdWA _ oM aU) hlWA;have z8:=z8.old (holdWA _ oM aU) hlWA;have z13:=z13.old (holdWA _ oM aU) hlWA;have z9:=z9.old (holdWA _ oM aU) hlWA;have z10:=z10.old (holdWA _ oM aU) hlWA;have z11:=jR.mk ebc6 eic6;have z12:=jR.mk ebc7 eic7;have hBt:=hBt.trans hbWA;clear c1 c2 c3 c4 d1 d2 d3 d4 f1 f2 f3 f4 holdWA hlWA hbWA;go_wp2;go_roundw
   case rel=>
    exact⟨y,x%y,!σ,p',_,r',_,HST.out,hBt,hk,z7,z8,z9,by rw[Bool.not_not];exact z10,by rw[Bool.not_not];exact z11,z12⟩
   case measure=>
    obtain⟨zn,za,zl,zc,k8,i8⟩:=z8;rw[hf _ _ _ _ _ k8 i8,hfr];have h5:=Int.emod_nonneg (x:Int) (show(y:Int)≠0 by omega);have h6:=Int.emod_lt (x:Int) (show(y:Int)≠0 by omega);omega
abbrev tI:TypeId:=35
def qC(w:World)(b:Nat)(zs:List Int):Prop:=
 ∃cs:Array Value,w.heap[b]?=some (.cells cs tI (0,0))/\∀k z,zs[k]?=some z->∃s a l c,cs[k*2]?=some (.bool s)/\cs[k*2+1]?=some (.slice a l c)/\zH w (.agg #[.bool s,.slice a l c]) z
theorem qC.lt{w:World}{b:Nat}{zs:List Int}(h:qC w b zs):b<w.heap.size:=by
 obtain⟨cs,h1,-⟩:=h;exact(Array.getElem?_eq_some_iff.1 h1).1
theorem qC.old{w w':World}{b:Nat}{zs:List Int}(h:qC w b zs)(e:w'.heap[b]?=w.heap[b]?)(x:yO w w'):qC w' b zs:=by
 obtain⟨cs,h1,h2⟩:=h;refine⟨cs,e.trans h1,fun k z hk=>?_⟩;obtain⟨s,a,l,c,e1,e2,e3⟩:=h2 k z hk;exact⟨s,a,l,c,e1,e2,e3.ext x⟩
theorem qC.below{w w':World}{b:Nat}{zs:List Int}(h:qC w b zs)(hb:Below w.heap.size w w'):qC w' b zs:=h.old (hb.block _ h.lt) (lx hb)
theorem qC.cell{w:World}{b:Nat}{zs:List Int}(h:qC w b zs){k:Nat}{z:Int}(hk:zs[k]?=some z):
  ∃s a l c,w.cell? ⟨b,k*2,none⟩=some (.bool s)/\w.cell? ⟨b,k*2+1,none⟩=some (.slice a l c)/\w.frozen? ⟨b,k*2,none⟩=false/\w.frozen? ⟨b,k*2+1,none⟩=false/\zH w (.agg #[.bool s,.slice a l c]) z:=by
 obtain⟨cs,h1,h2⟩:=h;obtain⟨s,a,l,c,e1,e2,e3⟩:=h2 k z hk;exact⟨s,a,l,c,(cell_of_row w b _ cs tI _ h1).trans e1,(cell_of_row w b _ cs tI _ h1).trans e2,frozen_of_row w b _ cs tI h1,frozen_of_row w b _ cs tI h1,e3⟩
theorem zV(w:World)(b i k:Nat)(u:Value)(h:k≠b):(w.setCell ⟨b,i,none⟩ u).heap[k]?=w.heap[k]?:=Below.heap_setCell w ⟨b,i,none⟩ u k h
theorem zR(w:World)(b i j k:Nat)(u v:Value)(h:k≠b):((w.setCell ⟨b,i,none⟩ u).setCell ⟨b,j,none⟩ v).heap[k]?=w.heap[k]?:=
 (zV _ b j k v h).trans (zV _ b i k u h)
theorem qC.set{w:World}{b:Nat}{zs:List Int}(h:qC w b zs){k:Nat}(hk:k<zs.length){s:Bool}{a:Option Addr}{l c:Nat}{z:Int}(hv:zH w (.agg #[.bool s,.slice a l c]) z):
  qC ((w.setCell ⟨b,k*2,none⟩ (.bool s)).setCell ⟨b,k*2+1,none⟩ (.slice a l c)) b (zs.set k z)/\yO w ((w.setCell ⟨b,k*2,none⟩ (.bool s)).setCell ⟨b,k*2+1,none⟩ (.slice a l c)):=by
 obtain⟨cs,h1,h2⟩:=h;have hB:Blk w b tI cs:=h1;have hx:yO w ((w.setCell ⟨b,k*2,none⟩ (.bool s)).setCell ⟨b,k*2+1,none⟩ (.slice a l c)):=(hB.lext dE _ _).trans ((hB.set_ _ _).lext dE _ _);refine⟨⟨(cs.setIfInBounds (k*2) (.bool s)).setIfInBounds (k*2+1) (.slice a l c),(hB.set_ _ _).set_ _ _,?_⟩,hx⟩;intro j y hj;by_cases e:j=k
 ·subst e
  rw[List.getElem?_set_self hk]at hj;injection hj with hj
  subst hj;obtain⟨s0,a0,l0,c0,e1,e2,-⟩:=h2 j zs[j] (xga hk);have l1:=(Array.getElem?_eq_some_iff.1 e1).1;have l2:=(Array.getElem?_eq_some_iff.1 e2).1;refine⟨s,a,l,c,?_,?_,hv.ext hx⟩
  ·rw[xgc oM,Array.getElem?_setIfInBounds_self_of_lt l1]
  ·rw[Array.getElem?_setIfInBounds_self_of_lt (by simpa using l2)]
 ·rw[List.getElem?_set_ne (Ne.symm e)]at hj
  obtain⟨s0,a0,l0,c0,e1,e2,e3⟩:=h2 j y hj;refine⟨s0,a0,l0,c0,?_,?_,e3.ext hx⟩
  ·rw[xgc oM,xgc oM];exact e1
  ·rw[xgc oM,xgc oM];exact e2
def qT(w:World)(v:Value)(zs:List Int):Prop:=
 ∃ao n cap,v= .slice ao n cap/\zs.length=n/\n<=cap/\cap<=9223372036854775807/\(zs≠ []->∃b,ao=some ⟨b,0,none⟩/\qC w b zs)
theorem qT.nil(w:World):qT w (.slice none 0 0) []:=⟨none,0,0,rfl,rfl,xgf _,by omega,fun h=>absurd rfl h⟩
theorem qT.below{w w':World}{v:Value}{zs:List Int}(h:qT w v zs)(hb:Below w.heap.size w w'):qT w' v zs:=by
 obtain⟨ao,n,cap,h1,h2,h3,h4,h5⟩:=h;exact⟨ao,n,cap,h1,h2,h3,h4,fun hn=>(h5 hn).elim fun b h=>⟨b,h.1,h.2.below hb⟩⟩
theorem qT.cell{w:World}{ao:Option Addr}{n cap:Nat}{zs:List Int}(h:qT w (.slice ao n cap) zs){k:Nat}(hk:k<zs.length):
  ∃b z s a l c,ao=some ⟨b,0,none⟩/\b<w.heap.size/\zs[k]?=some z/\w.cell? ⟨b,k*2,none⟩=some (.bool s)/\w.cell? ⟨b,k*2+1,none⟩=some (.slice a l c)/\zH w (.agg #[.bool s,.slice a l c]) z:=by
 obtain⟨ao',n',cap',h1,h2,h3,h4,h5⟩:=h;injection h1 with e1 e2 e3
 subst e1;obtain⟨b,e,hr⟩:=h5 (by rintro rfl;simp at hk);obtain⟨s,a,l,c,c1,c2,-,-,c5⟩:=hr.cell (xga hk);exact⟨b,_,s,a,l,c,e,hr.lt,xga hk,c1,c2,c5⟩
theorem qT.len{w:World}{ao:Option Addr}{n cap:Nat}{zs:List Int}(h:qT w (.slice ao n cap) zs):zs.length=n/\n<=cap/\cap<=9223372036854775807:=by
 obtain⟨ao',n',cap',h1,h2,h3,h4,h5⟩:=h;injection h1 with e1 e2 e3
 omega
def jB(w:World)(v:Value)(M:List (List Int)):Prop:=
 ∃ao n cap,v= .slice ao n cap/\M.length=n/\n<=cap/\cap<=9223372036854775807/\(M≠ []->∃(b:Nat) (cs:Array Value),ao=some ⟨b,0,none⟩/\w.heap[b]?=some (.cells cs 30 (0,0))/\∀(k:Nat) (zs:List Int),M[k]?=some zs->∃rv,cs[k]?=some rv/\qT w rv zs)
theorem jB.nil(w:World):jB w (.slice none 0 0) []:=⟨none,0,0,rfl,rfl,xgf _,by omega,fun h=>absurd rfl h⟩
theorem jB.below{w w':World}{v:Value}{M:List (List Int)}(h:jB w v M)(hb:Below w.heap.size w w'):jB w' v M:=by
 obtain⟨ao,n,cap,h1,h2,h3,h4,h5⟩:=h;refine⟨ao,n,cap,h1,h2,h3,h4,fun hn=>?_⟩;obtain⟨b,cs,e1,e2,e3⟩:=h5 hn;refine⟨b,cs,e1,(hb.block _ (Array.getElem?_eq_some_iff.1 e2).1).trans e2,fun k zs hk=>?_⟩;obtain⟨rv,e4,e5⟩:=e3 k zs hk;exact⟨rv,e4,e5.below hb⟩
theorem jB.row{w:World}{ao:Option Addr}{n cap:Nat}{M:List (List Int)}(h:jB w (.slice ao n cap) M){k:Nat}(hk:k<M.length):
  ∃b ra rn rc zs,ao=some ⟨b,0,none⟩/\b<w.heap.size/\M[k]?=some zs/\w.cell? ⟨b,k,none⟩=some (.slice ra rn rc)/\qT w (.slice ra rn rc) zs:=by
 obtain⟨ao',n',cap',h1,h2,h3,h4,h5⟩:=h;injection h1 with e1 e2 e3
 subst e1;obtain⟨b,cs,e,hr,hc⟩:=h5 (by rintro rfl;simp at hk);obtain⟨rv,c1,c2⟩:=hc k _ (xga hk);obtain⟨ra,rn,rc,rfl,c3⟩:=id c2;exact⟨b,ra,rn,rc,_,e,(Array.getElem?_eq_some_iff.1 hr).1,xga hk,(cell_of_row w b k cs _ _ hr).trans c1,c2⟩
def yP(w:World)(v:Value)(R C:Int)(M:List (List Int)):Prop:=∃A,v= .agg #[.int .i64 R,.int .i64 C,A]/\jB w A M
theorem yP.below{w w':World}{v:Value}{R C:Int}{M:List (List Int)}(h:yP w v R C M)(hb:Below w.heap.size w w'):yP w' v R C M:=by
 obtain⟨A,h1,h2⟩:=h;exact⟨A,h1,h2.below hb⟩
def jK(R C:Nat)(M:List (List Int)):Prop:=M.length=R/\∀r∈M,r.length=C
end Go.Proofs.YtnbmaipobhppcaaGreat
