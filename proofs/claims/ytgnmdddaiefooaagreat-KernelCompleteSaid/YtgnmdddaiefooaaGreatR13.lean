/- Package integer: Ext. -/
import Derived.Test.YtgnmdddaiefooaaGreatR12
set_option linter.unusedVariables false
set_option linter.unusedSimpArgs false
set_option linter.unusedSectionVars false
set_option maxHeartbeats 16000000
set_option maxRecDepth 100000
namespace Go.Proofs.YtgnmdddaiefooaaGreat
open Go.RowKit
def jS(w:World)(b:Nat)(z:Int):Prop:=∃n a l c,Blk w b 51 #[.bool n,.slice a l c]/\zR w (.agg #[.bool n,.slice a l c]) z
theorem jS.mk{w:World}{b:Nat}{z:Int}{x y:Value}(h:Blk w b 51 #[x,y])(hv:zR w (.agg #[x,y]) z):jS w b z:=by
 obtain⟨n,a,l,c,xs,e,h2⟩:=id hv;injection e with e
 simp only[Array.mk.injEq,List.cons.injEq,and_true]at e;obtain⟨rfl,rfl⟩:=e;exact⟨_,_,_,_,h,hv⟩
theorem jS.old{w w':World}{b:Nat}{z:Int}(h:jS w b z)(e:w'.heap[b]?=w.heap[b]?)(x:yI w w'):jS w' b z:=by
 obtain⟨n,a,l,c,h1,h2⟩:=h;exact⟨n,a,l,c,e.trans h1,h2.ext x⟩
theorem jS.lt{w:World}{b:Nat}{z:Int}(h:jS w b z):b<w.heap.size:=by
 obtain⟨n,a,l,c,h1,h2⟩:=h;exact h1.lt
theorem jS.below{w w':World}{b:Nat}{z:Int}(h:jS w b z)(hb:Below w.heap.size w w'):jS w' b z:=h.old (hb.block _ h.lt) (lx hb)
theorem jS.far{w:World}{b r:Nat}{z:Int}(h:jS w b z)(hne:b≠r){t:TypeId}{cs:Array Value}(hr:Blk w r t cs)(ht:t≠tU)(x y:Value):jS ((w.setCell ⟨r,0,none⟩ x).setCell ⟨r,1,none⟩ y) b z:=
 h.old ((Below.heap_setCell _ ⟨r,1,none⟩ _ b hne).trans (Below.heap_setCell _ ⟨r,0,none⟩ _ b hne)) (hr.lext2 ht x y)
theorem jS.put{w:World}{r:Nat}{z:Int}{c0 c1:Value}(hr:Blk w r 51 #[c0,c1]){x y:Value}(hv:zR w (.agg #[x,y]) z):jS ((w.setCell ⟨r,0,none⟩ x).setCell ⟨r,1,none⟩ y) r z:=
 jS.mk (hr.put2 _ _) (hv.ext (hr.lext2 dE _ _))
structure zH6(w wr:World)(a b:Int):Prop where
 a:jS wr w.heap.size a
 b:jS wr (w.heap.size+1) b
 r1:Blk wr (w.heap.size+1+1) 51 #[.bool false,.slice none 0 0]
 r2:Blk wr (w.heap.size+1+1+1) 51 #[.bool false,.slice none 0 0]
 r3:Blk wr (w.heap.size+1+1+1+1) 51 #[.bool false,.slice none 0 0]
theorem zH6.old{w wr w':World}{a b:Int}(h:zH6 w wr a b)(e:∀k,k<=w.heap.size+1+1+1+1->w'.heap[k]?=wr.heap[k]?)(x:yI wr w'):zH6 w w' a b:=
 ⟨h.a.old (e _ oM) x,h.b.old (e _ oM) x,(e _ oM).trans h.r1,(e _ oM).trans h.r2,(e _ oM).trans h.r3⟩
theorem zH6.below{w wr w':World}{a b:Int}(h:zH6 w wr a b)(hb:Below wr.heap.size wr w'):zH6 w w' a b:=
 h.old (fun k hk=>hb.block k (by have:=h.r3.lt;omega)) (lx hb)
structure zNG(a b:Int)(x y:Nat)(σ:Bool)(p p' r r':Nat):Prop where
 hg:Nat.gcd x y=Int.gcd a b
 hx:(x:Int)=sgn σ p*(a.natAbs:Int)+sgn (!σ) r*(b.natAbs:Int)
 hy:(y:Int)=sgn (!σ) p'*(a.natAbs:Int)+sgn σ r'*(b.natAbs:Int)
 hb:p'*x+p*y=b.natAbs
 ha:r'*x+r*y=a.natAbs
 pb:p<=max 1 b.natAbs
 pb':p'<=max 1 b.natAbs
 rb:r<=max 1 a.natAbs
 rb':r'<=max 1 a.natAbs
 yb:y<=b.natAbs
 xb:x<=max a.natAbs b.natAbs
theorem zNG.start(a b:Int):zNG a b a.natAbs b.natAbs false 1 0 0 1:=
 ⟨rfl,by simp,by simp,by simp,by simp,by omega,by omega,by omega,by omega,xgf _,by omega⟩
theorem zCI(σ:Bool)(p q p':Nat):sgn σ p-(q:Int)*sgn (!σ) p'=sgn σ (p+q*p'):=by
 have e:((q*p':Nat):Int)=(q:Int)*(p':Int):=Int.natCast_mul _ _;cases σ
 ·show(p:Int)-(q:Int)*(-(p':Int))=((p+q*p':Nat):Int)
  rw[Int.natCast_add,e,Int.mul_neg];omega
 ·show-(p:Int)-(q:Int)*((p':Nat):Int)=-((p+q*p':Nat):Int)
  rw[Int.natCast_add,e];omega
theorem zNG.step{a b:Int}{x y:Nat}{σ:Bool}{p p' r r':Nat}(h:zNG a b x y σ p p' r r')(hy:0<y):
  zNG a b y (x%y) (!σ) p' (p+x/y*p') r' (r+x/y*r'):=by
 have hd:=Nat.div_add_mod x y;have hm:=Nat.mod_lt x hy;have e1:(p+x/y*p')*y+p'*(x%y)=b.natAbs:=by
  rw[<-h.hb];have:p'*x=p'*(y*(x/y))+p'*(x%y):=by rw[<-Nat.mul_add,hd]
  rw[this,Nat.add_mul,Nat.mul_comm (x/y) p',Nat.mul_assoc,Nat.mul_comm (x/y) y];omega
 have e2:(r+x/y*r')*y+r'*(x%y)=a.natAbs:=by
  rw[<-h.ha];have:r'*x=r'*(y*(x/y))+r'*(x%y):=by rw[<-Nat.mul_add,hd]
  rw[this,Nat.add_mul,Nat.mul_comm (x/y) r',Nat.mul_assoc,Nat.mul_comm (x/y) y];omega
 have b1:p+x/y*p'<=b.natAbs:=by
  have:=Nat.le_mul_of_pos_right (p+x/y*p') hy;omega
 have b2:r+x/y*r'<=a.natAbs:=by
  have:=Nat.le_mul_of_pos_right (r+x/y*r') hy;omega
 refine⟨?_,by rw[Bool.not_not];exact h.hy,?_,e1,e2,h.pb',by omega,h.rb',by omega,?_,by have:=h.yb;omega⟩
 ·rw[<-h.hg,Nat.gcd_comm x y,Nat.gcd_rec y x,Nat.gcd_comm]
 ·rw[Bool.not_not]
  have hq:((x%y:Nat):Int)=(x:Int)-((x/y:Nat):Int)*(y:Int):=by
   have:((y*(x/y)+x%y:Nat):Int)=(x:Int):=by rw[hd]
   rw[Int.natCast_add,Int.natCast_mul,Int.mul_comm]at this;omega
  rw[hq,h.hx,h.hy,<-zCI,<-zCI (!σ) r (x/y) r',Bool.not_not];simp only[Int.sub_mul,Int.mul_add,Int.mul_assoc];omega
 ·have:=h.yb
  omega
def zOc(w:World)(a b:Int)(e:Ending)(w':World):Prop:=
 ∃v1 v2 v3 s t,e= .returned (.tuple #[v1,v2,v3])/\zR w' v1 ((Int.gcd a b:Nat):Int)/\zR w' v2 s/\zR w' v3 t/\s*a+t*b=((Int.gcd a b:Nat):Int)∧
  s.natAbs<=max 1 b.natAbs/\t.natAbs<=max 1 a.natAbs/\Below w.heap.size w w'
theorem zNg(v1 v2:Value)(a b:Int)(w:World)(h1:zR w v1 a)(h2:zR w v2 b)(s1:Smd a)(s2:Smd b):
  Calls Tryz.prog 160 #[v1,v2] w (zOc w a b):=by
 obtain⟨neg1,ao1,n1,cap1,xs,rfl,i1⟩:=id h1;obtain⟨neg2,ao2,n2,cap2,ys,rfl,i2⟩:=id h2;have HS1:=xgw s1;have HS2:=xgw s2;clear s1 s2 i1 i2;go_enter Tryz.func160,Tryz.ntmps160;go_upto_region 1 with(fail)
 refine zC ?_;intro W0 hW0;obtain⟨hB0,bx1,bx2,br1,br2,br3,hs0⟩:=zPB hW0;have h1:=h1.ext (lx hB0);have h2:=h2.ext (lx hB0);have hk:zH6 w W0 a b:=⟨jS.mk bx1 h1,jS.mk bx2 h2,br1,br2,br3⟩;obtain⟨c1,c2,c3,c4⟩:=bx1.two;obtain⟨d1,d2,d3,d4⟩:=bx2.two;have SA:=HS1.out.sm;have SB:=HS2.out.sm;refine zF rfl (RI W0 (W0.heap.size) _ 51
   [E 0 16 (.agg #[.bool neg1,.slice ao1 n1 cap1]),EI 1 17 (((a.natAbs:Nat):Int)),E 2 18 (.agg #[.bool neg2,.slice ao2 n2 cap2]),EI 3 19 (((b.natAbs:Nat):Int))] [⟨4,7,6,fun w v=>zR w v (((a.natAbs:Nat):Int))⟩,⟨5,8,7,fun w v=>zR w v (((b.natAbs:Nat):Int))⟩] []) kR RI.start ?fin1 ?steps1
 case steps1=>
  refine⟨?_,?_,?_,?_,?_,?_,?_,?_,trivial⟩<;>(intro L T wS hL hd hcl hI K hK;try refine zA rfl ?_)
  ·have zt:=hI.k 2 rfl kR
   have cc0:=hI.cell c1 oM nom;have cc1:=hI.cell c2 oM nom;exact xgu
  ·have zt0:=hI.e mm0 (hd 0)
   go_simp;refine(zJu _ a _ (h1.ext hI.lext).weak SA).mono ?_;exact xgo
  ·have zt:=hI.k 3 rfl kR
   have cc0:=hI.cell d1 oM nom;have cc1:=hI.cell d2 oM nom;exact xgu
  ·have zt2:=hI.e mm2 (hd 2)
   go_simp;refine(zJu _ b _ (h2.ext hI.lext).weak SB).mono ?_;exact xgo
  ·go_simp
   exact hK _ _ (hI.alloc ⟨4,7,6,_⟩ mm0 rfl hL)
  ·go_simp
   exact hK _ _ (hI.alloc ⟨5,8,7,_⟩ mm1 rfl hL)
  ·obtain⟨v,t1,hv⟩:=hI.vi mm1 (hd 1)
   obtain⟨b,x,y,t2,hb1,hb2,-⟩:=hI.box _ mm0 (hd 4);obtain⟨vneg,vao,vlen,vcap,vls,rfl,hv'⟩:=id hv;have HT:=xgw t2;unfold ptr at t2;obtain⟨k1,k2,k3,k4⟩:=hb2.two;go_simp;exact hK _ _ (hI.store ⟨4,7,6,_⟩ mm0 rfl (hd 4) HT.out hv)
  ·obtain⟨v,t1,hv⟩:=hI.vi mm3 (hd 3)
   obtain⟨b,x,y,t2,hb1,hb2,-⟩:=hI.box _ mm1 (hd 5);obtain⟨vneg,vao,vlen,vcap,vls,rfl,hv'⟩:=id hv;have HT:=xgw t2;unfold ptr at t2;obtain⟨k1,k2,k3,k4⟩:=hb2.two;go_simp;exact hK _ _ (hI.store ⟨5,8,7,_⟩ mm1 rfl (hd 5) HT.out hv)
 intro T W1 hI;have hT:=hI.finx kR kR;have hlW1:=hI.lext;have hbW1:=hI.bel (W0.heap.size) oM nom;have holdW1:=hI.old;clear hI;simp only[zE3,zEz,E,EI,ptr,xgm,List.not_mem_nil,false_implies,implies_true,and_true,true_and,xgg,xgh,xgi,xgj]at hT;obtain⟨va1,ha1,va3,ha3,ca4,xa4,ya4,ga4,ka4,ia4,ca5,xa5,ya5,ga5,ka5,ia5,na4_5,rfl⟩:=hT;have hk:=hk.below hbW1;have hBt:=nx hB0 hbW1;have z7:=jS.mk ka4 ia4;have z8:=jS.mk ka5 ia5;have l7:=z7.lt;have l8:=z8.lt;clear c1 c2 c3 c4 d1 d2 d3 d4 SA SB h1 h2 bx1 bx2 br1 br2 br3 ha1 ha3 ka4 ia4 ka5 ia5 hW0;go_wp2_with fail
 refine(zEi 1 W1 oM oM).mono ?_;rintro e w2 ⟨v,rfl,hv,hb2⟩;obtain⟨an,aa,al,ac,ax,rfl,ha⟩:=id hv;have HA:=xgw ha;clear ha;go_wp2_with fail
 refine(zEi 0 w2 oM oM).mono ?_;rintro e w3 ⟨u,rfl,hu,hb3⟩;obtain⟨bn,ba,bl,bc,bx,rfl,hb⟩:=id hu;have HB:=xgw hb;clear hb;go_upto_region 3 with(fail)
 refine zC ?_;intro W4 hW4;obtain⟨hB4,T9,T10,hs4⟩:=qK hW4;have hk:=((hk.below hb2).below hb3).below hB4;have hBt:=nx (nx (nx hBt hb2) hb3) hB4;have z7:=((z7.below hb2).below hb3).below hB4;have z8:=((z8.below hb2).below hb3).below hB4;have z9:=jS.mk T9 (hv.ext ((lx hb3).trans (lx hB4)));have z10:=jS.mk T10 (hu.ext (lx hB4));have hs1':=hb2.size;have hs2':=hb3.size;have hs3':=hbW1.size;clear hv hu hb2 hb3 hB4 T9 T10 hW4;go_wp2_with fail
 refine(zEi 0 W4 oM oM).mono ?_;rintro e w5 ⟨v,rfl,hv,hb2⟩;obtain⟨cn,ca,cl,cc,cx,rfl,ha⟩:=id hv;have HA':=xgw ha;clear ha;go_wp2_with fail
 refine(zEi 1 w5 oM oM).mono ?_;rintro e w6 ⟨u,rfl,hu,hb3⟩;obtain⟨dn,da,dl,dc,dx,rfl,hb⟩:=id hu;have HB':=xgw hb;clear hb;go_upto_block 0 with(fail)
 refine zC ?_;intro W7 hW7;obtain⟨hB7,T11,T12,hs7⟩:=qK hW7;have hk:=((hk.below hb2).below hb3).below hB7;have hBt:=nx (nx (nx hBt hb2) hb3) hB7;have z7:=((z7.below hb2).below hb3).below hB7;have z8:=((z8.below hb2).below hb3).below hB7;have z9:=((z9.below hb2).below hb3).below hB7;have z10:=((z10.below hb2).below hb3).below hB7;have z11:=jS.mk T11 (hv.ext ((lx hb3).trans (lx hB7)));have z12:=jS.mk T12 (hu.ext (lx hB7));have hs5':=hb2.size;have hs6':=hb3.size;clear hv hu hb2 hb3 hB7 T11 T12 hW7;obtain⟨f,hf⟩:=zIL;have lt8:=z8.lt;have lt7:=z7.lt;have q7:w.heap.size+1+1+1+1<ca4:=by omega
 have q8:w.heap.size+1+1+1+1<ca5:=by omega
 have q79:ca4<w3.heap.size:=by omega
 have q89:ca5<w3.heap.size:=by omega
 have q11:w3.heap.size+1<w6.heap.size:=by omega
 clear lt7 lt8 l7 l8 hs0 hs4 hs5' hs6' hs1' hs2' hs3' ga4 ga5;go_wp2;go_loopw [] (fun wr=>∃(x y:Nat) (σ:Bool) (p p' r r':Nat),zNG a b x y σ p p' r r'/\Below w.heap.size w wr/\zH6 w wr a b/\jS wr ca4 x/\jS wr ca5 y/\jS wr w3.heap.size (sgn σ p)/\jS wr (w3.heap.size+1) (sgn (!σ) p')∧
  jS wr w6.heap.size (sgn (!σ) r)/\jS wr (w6.heap.size+1) (sgn σ r')) (fun wr=>(f wr ca5).natAbs)
 case atStart=>exact⟨_,_,_,_,_,_,_,zNG.start a b,hBt,hk,z7,z8,z9,z10,z11,z12⟩
 case round=>
  obtain⟨x,y,σ,p,p',r,r',hN,hBt,hk,z7,z8,z9,z10,z11,z12⟩:=hrel;have HN:=xgw hN;clear hN;have lt12:=z12.lt;obtain⟨yn,ya,yl,yc,k8,i8⟩:=z8;have hfr:=hf _ _ _ _ _ k8 i8;obtain⟨d1,d2,d3,d4⟩:=k8.two;go_wp2_with fail
  refine(jE _ _ wr i8.weak).mono ?_;rintro e wa ⟨rfl,hba⟩;have k8:=k8.below hba;have i8:=i8.ext (lx hba);have hk:=hk.below hba;have hBt:=nx hBt hba;have z7:=z7.below hba;have z9:=z9.below hba;have z10:=z10.below hba;have z11:=z11.below hba;have z12:=z12.below hba;have hsa:=hba.size;clear d1 d2 d3 d4 hba;obtain⟨d1,d2,d3,d4⟩:=k8.two;obtain⟨xn,xa,xl,xc,k7,i7⟩:=z7;obtain⟨c1,c2,c3,c4⟩:=k7.two;by_cases h0:y=0
  ·have hc:qO (y:Int) 0=0:=by subst h0;rfl
   rw[hc];have hG:(x:Int)=((Int.gcd a b:Nat):Int):=by
    have:=HN.out.hg;rw[h0,Nat.gcd_zero_right]at this;rw[this]
   have HG:=xgw hG;clear hG hfr lt12;go_wp2_with fail
   refine(jE _ _ wa i7.weak).mono ?_;rintro e wb ⟨rfl,hb⟩;have k7:=k7.below hb;have i7:=i7.ext (lx hb);have hk:=hk.below hb;have hBt:=nx hBt hb;have z9:=z9.below hb;have z11:=z11.below hb;clear c1 c2 c3 c4 d1 d2 d3 d4 hb z10 z12 k8 i8 hc hsa;by_cases hx0:x=0
   ·have hc:qO (x:Int) 0=0:=by subst hx0;rfl
    rw[hc];obtain⟨e1,e2,e3,e4⟩:=hk.r1.two;obtain⟨f1,f2,f3,f4⟩:=hk.r2.two;obtain⟨g1,g2,g3,g4⟩:=hk.r3.two;go_wp2_with fail
    refine bodyPost_ret (zAv rfl _ rfl rfl rfl ((((hk.r1.put2 _ _).far oM _ _).far oM _ _).far oM _ _|>.far oM _ _) ((((hk.r2.far oM _ _).far oM _ _).put2 _ _).far oM _ _|>.far oM _ _) ((((hk.r3.far oM _ _).far oM _ _).far oM _ _).far oM _ _|>.put2 _ _) rfl rfl rfl) rfl ?_;refine⟨_,_,_,0,0,rfl,?_,zBt _,zBt _,?_,by omega,by omega,zP (zP (zP (zP (zP (zP hBt oM 0 _) oM 1 _) oM 0 _) oM 1 _) oM 0 _) oM 1 _⟩
    ·rw[<-HG.out,hx0];exact zBt _
    ·rw[<-HG.out,hx0];simp
   ·have hc:qO (x:Int) 0=1:=by unfold qO;rw[if_neg oM,if_pos oM]
    rw[hc];obtain⟨an,aa,al,ac,ka,ia⟩:=hk.a;obtain⟨c1,c2,c3,c4⟩:=ka.two;go_wp2_with fail
    refine(jE _ _ wb ia.weak).mono ?_;rintro e wc ⟨rfl,hb⟩;have k7:=k7.below hb;have i7:=i7.ext (lx hb);have hk:=hk.below hb;have hBt:=nx hBt hb;have z9:=z9.below hb;have z11:=z11.below hb;clear c1 c2 c3 c4 hb ka ia hc;have hsum:sgn σ p*(a.natAbs:Int)+sgn (!σ) r*(b.natAbs:Int)=((Int.gcd a b:Nat):Int):=by rw[<-HG.out,HN.out.hx]
    have pb:=HN.out.pb;have rb:=HN.out.rb;have SP:qM (Sm (sgn σ p)):=⟨HS2.out.sm1 (by rw[qD];omega)⟩;have SR:qM (Sm (sgn (!σ) r)):=⟨HS1.out.sm1 (by rw[qD];omega)⟩;obtain⟨s0,hs0⟩:∃s0,sgn σ p=s0:=⟨_,rfl⟩;obtain⟨t0,ht0⟩:∃t0,sgn (!σ) r=t0:=⟨_,rfl⟩;have ps0:s0.natAbs<=max 1 b.natAbs:=by rw[<-hs0,qD];exact pb
    have rt0:t0.natAbs<=max 1 a.natAbs:=by rw[<-ht0,qD];exact rb
    rw[hs0]at z9 hsum SP;rw[ht0]at z11 hsum SR;clear hs0 ht0 pb rb;by_cases ha0:a<0
    ·have hc:qO a 0=-1:=by unfold qO;rw[if_pos ha0]
     have hsum:-s0*a+t0*(b.natAbs:Int)=((Int.gcd a b:Nat):Int):=by
      rw[<-hsum];have:(a.natAbs:Int)=-a:=by omega
      rw[this,Int.neg_mul_comm s0 a]
     rw[hc];obtain⟨sn,sa,sl,sc,ks,is⟩:=z9;obtain⟨c1,c2,c3,c4⟩:=ks.two;go_wp2_with fail
     refine(jR _ s0 wc is.weak SP.out).mono ?_;rintro e wd ⟨v,rfl,hv,hb⟩;obtain⟨vn,va,vl,vc,vx,rfl,hv'⟩:=id hv;have HV:=xgw hv';clear hv' c1 c2 c3 c4;have ks:=ks.below hb;have k7:=k7.below hb;have i7:=i7.ext (lx hb);have hk:=hk.below hb;have hBt:=nx hBt hb;have z11:=z11.below hb;obtain⟨c1,c2,c3,c4⟩:=ks.two;go_upto_region 13 with(fail)
     refine zC ?_;intro We hWe;have z9:jS We w3.heap.size (-s0):=by rw[hWe.out];exact jS.put ks hv
     have z11:jS We w6.heap.size t0:=by rw[hWe.out];exact z11.far oM ks dE _ _
     have k7':=Blk.at_ hWe ((k7.far oM _ _).far oM _ _);have hx':yI wd We:=by rw[hWe.out];exact ks.lext2 dE _ _
     have i7:=i7.ext hx';have hk:zH6 w We a b:=hk.old (fun k hk0=>by rw[hWe.out];exact(Below.heap_setCell _ ⟨_,1,none⟩ _ k (by show k≠w3.heap.size;omega)).trans (Below.heap_setCell _ ⟨_,0,none⟩ _ k (by show k≠w3.heap.size;omega))) hx';have k7:=k7';have hBt:Below w.heap.size w We:=by rw[hWe.out];exact zP (zP hBt oM 0 _) oM 1 _
     clear c1 c2 c3 c4 hWe hb ks k7' hx' hc is hv;have ps0:(-s0).natAbs<=max 1 b.natAbs:=by rw[Int.natAbs_neg];exact ps0
     obtain⟨bn',ba',bl',bc',kb,ib⟩:=hk.b;obtain⟨c1,c2,c3,c4⟩:=kb.two;go_wp2_with fail
     refine(jE _ _ We ib.weak).mono ?_;rintro e wf ⟨rfl,hb⟩;have k7:=k7.below hb;have i7:=i7.ext (lx hb);have hk:=hk.below hb;have hBt:=nx hBt hb;have z9:=z9.below hb;have z11:=z11.below hb;clear c1 c2 c3 c4 hb kb ib;by_cases hb0:b<0
     ·have hc:qO b 0=-1:=by unfold qO;rw[if_pos hb0]
      have hsum:(-s0)*a+-t0*b=((Int.gcd a b:Nat):Int):=by
       rw[<-hsum];have:(b.natAbs:Int)=-b:=by omega
       rw[this,Int.neg_mul_comm t0 b]
      rw[hc];obtain⟨tn,ta,tl,tc,kt,it⟩:=z11;obtain⟨c1,c2,c3,c4⟩:=kt.two;go_wp2_with fail
      refine(jR _ t0 wf it.weak SR.out).mono ?_;rintro e wg ⟨v,rfl,hv,hb⟩;obtain⟨un,ua,ul,uc,ux,rfl,hv'⟩:=id hv;have HU:=xgw hv';clear hv' c1 c2 c3 c4;have kt:=kt.below hb;have k7:=k7.below hb;have i7:=i7.ext (lx hb);have hk:=hk.below hb;have hBt:=nx hBt hb;have z9:=z9.below hb;obtain⟨c1,c2,c3,c4⟩:=kt.two;go_upto_region 15 with(fail)
      refine zC ?_;intro Wh hWh;have z11:jS Wh w6.heap.size (-t0):=by rw[hWh.out];exact jS.put kt hv
      have z9:jS Wh w3.heap.size (-s0):=by rw[hWh.out];exact z9.far oM kt dE _ _
      have k7':=Blk.at_ hWh ((k7.far oM _ _).far oM _ _);have hx':yI wg Wh:=by rw[hWh.out];exact kt.lext2 dE _ _
      have i7:=i7.ext hx';have hk:zH6 w Wh a b:=hk.old (fun k hk0=>by rw[hWh.out];exact(Below.heap_setCell _ ⟨_,1,none⟩ _ k (by show k≠w6.heap.size;omega)).trans (Below.heap_setCell _ ⟨_,0,none⟩ _ k (by show k≠w6.heap.size;omega))) hx';have k7:=k7';have hBt:Below w.heap.size w Wh:=by rw[hWh.out];exact zP (zP hBt oM 0 _) oM 1 _
      have rt0:(-t0).natAbs<=max 1 a.natAbs:=by rw[Int.natAbs_neg];exact rt0
      clear c1 c2 c3 c4 hWh hb kt k7' hx' hc it hv;obtain⟨sn,sa,sl,sc,ks,is⟩:=z9;obtain⟨tn,ta,tl,tc,kt,it⟩:=z11;obtain⟨c1,c2,c3,c4⟩:=k7.two;obtain⟨d1,d2,d3,d4⟩:=ks.two;obtain⟨f1,f2,f3,f4⟩:=kt.two;have lkt:=kt.lt;have kr1:=hk.r1;have kr2:=hk.r2;have kr3:=hk.r3;refine zF rfl (RI Wh (Wh.heap.size) _ 51
        [E 0 64 (.agg #[.bool xn,.slice xa xl xc]),E 1 65 (.agg #[.bool sn,.slice sa sl sc]),E 2 66 (.agg #[.bool tn,.slice ta tl tc])] [] [⟨3,w.heap.size+1+1,fun w v=>zR w v ((x:Int))⟩,⟨4,w.heap.size+1+1+1,fun w v=>zR w v ((-s0))⟩,⟨5,w.heap.size+1+1+1+1,fun w v=>zR w v ((-t0))⟩]) kR RI.start ?fin2 ?steps2
      case steps2=>
       refine⟨?_,?_,?_,?_,?_,?_,trivial⟩<;>(intro L T wS hL hd hcl hI K hK;try refine zA rfl ?_)
       ·have zt:=hI.k 7 rfl kR
        have cc0:=hI.cell c1 oM aU;have cc1:=hI.cell c2 oM aU;exact xgu
       ·have zt:=hI.k 9 rfl kR
        have cc0:=hI.cell d1 oM aU;have cc1:=hI.cell d2 oM aU;exact xgu
       ·have zt:=hI.k 11 rfl kR
        have cc0:=hI.cell f1 oM aU;have cc1:=hI.cell f2 oM aU;exact xgu
       ·have zt:=hI.k 4 rfl kR
        have zv:=hI.e mm0 (hd 0);obtain⟨⟨xo,yo,zb,-⟩,-⟩:=hI.ex _ mm0;replace zb:Blk wS (w.heap.size+1+1) 51 #[xo,yo]:=zb;obtain⟨zk1,zk2,zk3,zk4⟩:=zb.two;go_simp;exact hK _ _ (hI.storeE ⟨3,w.heap.size+1+1,_⟩ mm0 rfl hL rfl (zR.ext i7 hI.lext))
       ·have zt:=hI.k 5 rfl kR
        have zv:=hI.e mm1 (hd 1);obtain⟨⟨xo,yo,zb,-⟩,-⟩:=hI.ex _ mm1;replace zb:Blk wS (w.heap.size+1+1+1) 51 #[xo,yo]:=zb;obtain⟨zk1,zk2,zk3,zk4⟩:=zb.two;go_simp;exact hK _ _ (hI.storeE ⟨4,w.heap.size+1+1+1,_⟩ mm1 rfl hL rfl (zR.ext is hI.lext))
       ·have zt:=hI.k 6 rfl kR
        have zv:=hI.e mm2 (hd 2);obtain⟨⟨xo,yo,zb,-⟩,-⟩:=hI.ex _ mm2;replace zb:Blk wS (w.heap.size+1+1+1+1) 51 #[xo,yo]:=zb;obtain⟨zk1,zk2,zk3,zk4⟩:=zb.two;go_simp;exact hK _ _ (hI.storeE ⟨5,w.heap.size+1+1+1+1,_⟩ mm2 rfl hL rfl (zR.ext it hI.lext))
      intro T Wz hI;obtain⟨⟨exz3,eyz3,ebz3,eiz3⟩,-⟩:=hI.ex _ mm0;replace ebz3:Blk Wz (w.heap.size+1+1) 51 #[exz3,eyz3]:=ebz3;replace eiz3:zR Wz (.agg #[exz3,eyz3]) ((x:Int)):=eiz3 rfl;obtain⟨⟨exz4,eyz4,ebz4,eiz4⟩,-⟩:=hI.ex _ mm1;replace ebz4:Blk Wz (w.heap.size+1+1+1) 51 #[exz4,eyz4]:=ebz4;replace eiz4:zR Wz (.agg #[exz4,eyz4]) ((-s0)):=eiz4 rfl;obtain⟨⟨exz5,eyz5,ebz5,eiz5⟩,-⟩:=hI.ex _ mm2;replace ebz5:Blk Wz (w.heap.size+1+1+1+1) 51 #[exz5,eyz5]:=ebz5;replace eiz5:zR Wz (.agg #[exz5,eyz5]) ((-t0)):=eiz5 rfl;have hT:=hI.finx kR kR;have hlWz:=hI.lext;have hbWz:=hI.bel (w.heap.size) oM aU;have holdWz:=hI.old;clear hI;simp only[zE3,zEz,E,EI,ptr,xgm,List.not_mem_nil,false_implies,implies_true,and_true,true_and,xgg,xgh,xgi,xgj]at hT;subst hT;go_wp2_with fail
      refine bodyPost_ret (zAv rfl _ rfl rfl rfl ebz3 ebz4 ebz5 rfl rfl rfl) rfl ⟨_,_,_,(-s0),(-t0),rfl,HG.out ▸ eiz3,eiz4,eiz5,hsum,ps0,rt0,hBt.trans hbWz⟩
     ·have hc:¬ qO b 0<0:=by unfold qO;rw[if_neg hb0];split<;>omega
      obtain⟨k,hkk⟩:∃k,qO b 0=k:=⟨_,rfl⟩;rw[hkk]at hc ⊢
      have hsum:(-s0)*a+t0*b=((Int.gcd a b:Nat):Int):=by
       rw[<-hsum];have:(b.natAbs:Int)=b:=by omega
       rw[this]
      clear hkk;go_upto_region 15 with(fail)
      obtain⟨sn,sa,sl,sc,ks,is⟩:=z9;obtain⟨tn,ta,tl,tc,kt,it⟩:=z11;obtain⟨c1,c2,c3,c4⟩:=k7.two;obtain⟨d1,d2,d3,d4⟩:=ks.two;obtain⟨f1,f2,f3,f4⟩:=kt.two;have lkt:=kt.lt;have kr1:=hk.r1;have kr2:=hk.r2;have kr3:=hk.r3;refine zF rfl (RI wf (wf.heap.size) _ 51
        [E 0 64 (.agg #[.bool xn,.slice xa xl xc]),E 1 65 (.agg #[.bool sn,.slice sa sl sc]),E 2 66 (.agg #[.bool tn,.slice ta tl tc])] [] [⟨3,w.heap.size+1+1,fun w v=>zR w v ((x:Int))⟩,⟨4,w.heap.size+1+1+1,fun w v=>zR w v ((-s0))⟩,⟨5,w.heap.size+1+1+1+1,fun w v=>zR w v (t0)⟩]) kR RI.start ?fin3 ?steps3
      case steps3=>
       refine⟨?_,?_,?_,?_,?_,?_,trivial⟩<;>(intro L T wS hL hd hcl hI K hK;try refine zA rfl ?_)
       ·have zt:=hI.k 7 rfl kR
        have cc0:=hI.cell c1 oM aU;have cc1:=hI.cell c2 oM aU;exact xgu
       ·have zt:=hI.k 9 rfl kR
        have cc0:=hI.cell d1 oM aU;have cc1:=hI.cell d2 oM aU;exact xgu
       ·have zt:=hI.k 11 rfl kR
        have cc0:=hI.cell f1 oM aU;have cc1:=hI.cell f2 oM aU;exact xgu
       ·have zt:=hI.k 4 rfl kR
        have zv:=hI.e mm0 (hd 0);obtain⟨⟨xo,yo,zb,-⟩,-⟩:=hI.ex _ mm0;replace zb:Blk wS (w.heap.size+1+1) 51 #[xo,yo]:=zb;obtain⟨zk1,zk2,zk3,zk4⟩:=zb.two;go_simp;exact hK _ _ (hI.storeE ⟨3,w.heap.size+1+1,_⟩ mm0 rfl hL rfl (zR.ext i7 hI.lext))
       ·have zt:=hI.k 5 rfl kR
        have zv:=hI.e mm1 (hd 1);obtain⟨⟨xo,yo,zb,-⟩,-⟩:=hI.ex _ mm1;replace zb:Blk wS (w.heap.size+1+1+1) 51 #[xo,yo]:=zb;obtain⟨zk1,zk2,zk3,zk4⟩:=zb.two;go_simp;exact hK _ _ (hI.storeE ⟨4,w.heap.size+1+1+1,_⟩ mm1 rfl hL rfl (zR.ext is hI.lext))
       ·have zt:=hI.k 6 rfl kR
        have zv:=hI.e mm2 (hd 2);obtain⟨⟨xo,yo,zb,-⟩,-⟩:=hI.ex _ mm2;replace zb:Blk wS (w.heap.size+1+1+1+1) 51 #[xo,yo]:=zb;obtain⟨zk1,zk2,zk3,zk4⟩:=zb.two;go_simp;exact hK _ _ (hI.storeE ⟨5,w.heap.size+1+1+1+1,_⟩ mm2 rfl hL rfl (zR.ext it hI.lext))
      intro T Wz hI;obtain⟨⟨exz3,eyz3,ebz3,eiz3⟩,-⟩:=hI.ex _ mm0;replace ebz3:Blk Wz (w.heap.size+1+1) 51 #[exz3,eyz3]:=ebz3;replace eiz3:zR Wz (.agg #[exz3,eyz3]) ((x:Int)):=eiz3 rfl;obtain⟨⟨exz4,eyz4,ebz4,eiz4⟩,-⟩:=hI.ex _ mm1;replace ebz4:Blk Wz (w.heap.size+1+1+1) 51 #[exz4,eyz4]:=ebz4;replace eiz4:zR Wz (.agg #[exz4,eyz4]) ((-s0)):=eiz4 rfl;obtain⟨⟨exz5,eyz5,ebz5,eiz5⟩,-⟩:=hI.ex _ mm2;replace ebz5:Blk Wz (w.heap.size+1+1+1+1) 51 #[exz5,eyz5]:=ebz5;replace eiz5:zR Wz (.agg #[exz5,eyz5]) (t0):=eiz5 rfl;have hT:=hI.finx kR kR;have hlWz:=hI.lext;have hbWz:=hI.bel (w.heap.size) oM aU;have holdWz:=hI.old;clear hI;simp only[zE3,zEz,E,EI,ptr,xgm,List.not_mem_nil,false_implies,implies_true,and_true,true_and,xgg,xgh,xgi,xgj]at hT;subst hT;go_wp2_with fail
      refine bodyPost_ret (zAv rfl _ rfl rfl rfl ebz3 ebz4 ebz5 rfl rfl rfl) rfl ⟨_,_,_,(-s0),t0,rfl,HG.out ▸ eiz3,eiz4,eiz5,hsum,ps0,rt0,hBt.trans hbWz⟩
    ·have hc:¬ qO a 0<0:=by unfold qO;rw[if_neg ha0];split<;>omega
     obtain⟨k,hkk⟩:∃k,qO a 0=k:=⟨_,rfl⟩;rw[hkk]at hc ⊢
     have hsum:s0*a+t0*(b.natAbs:Int)=((Int.gcd a b:Nat):Int):=by
      rw[<-hsum];have:(a.natAbs:Int)=a:=by omega
      rw[this]
     clear hkk;obtain⟨bn',ba',bl',bc',kb,ib⟩:=hk.b;obtain⟨c1,c2,c3,c4⟩:=kb.two;go_wp2_with fail
     refine(jE _ _ wc ib.weak).mono ?_;rintro e wf ⟨rfl,hb⟩;have k7:=k7.below hb;have i7:=i7.ext (lx hb);have hk:=hk.below hb;have hBt:=nx hBt hb;have z9:=z9.below hb;have z11:=z11.below hb;clear c1 c2 c3 c4 hb kb ib;by_cases hb0:b<0
     ·have hc:qO b 0=-1:=by unfold qO;rw[if_pos hb0]
      have hsum:s0*a+-t0*b=((Int.gcd a b:Nat):Int):=by
       rw[<-hsum];have:(b.natAbs:Int)=-b:=by omega
       rw[this,Int.neg_mul_comm t0 b]
      rw[hc];obtain⟨tn,ta,tl,tc,kt,it⟩:=z11;obtain⟨c1,c2,c3,c4⟩:=kt.two;go_wp2_with fail
      refine(jR _ t0 wf it.weak SR.out).mono ?_;rintro e wg ⟨v,rfl,hv,hb⟩;obtain⟨un,ua,ul,uc,ux,rfl,hv'⟩:=id hv;have HU:=xgw hv';clear hv' c1 c2 c3 c4;have kt:=kt.below hb;have k7:=k7.below hb;have i7:=i7.ext (lx hb);have hk:=hk.below hb;have hBt:=nx hBt hb;have z9:=z9.below hb;obtain⟨c1,c2,c3,c4⟩:=kt.two;go_upto_region 15 with(fail)
      refine zC ?_;intro Wh hWh;have z11:jS Wh w6.heap.size (-t0):=by rw[hWh.out];exact jS.put kt hv
      have z9:jS Wh w3.heap.size s0:=by rw[hWh.out];exact z9.far oM kt dE _ _
      have k7':=Blk.at_ hWh ((k7.far oM _ _).far oM _ _);have hx':yI wg Wh:=by rw[hWh.out];exact kt.lext2 dE _ _
      have i7:=i7.ext hx';have hk:zH6 w Wh a b:=hk.old (fun k hk0=>by rw[hWh.out];exact(Below.heap_setCell _ ⟨_,1,none⟩ _ k (by show k≠w6.heap.size;omega)).trans (Below.heap_setCell _ ⟨_,0,none⟩ _ k (by show k≠w6.heap.size;omega))) hx';have k7:=k7';have hBt:Below w.heap.size w Wh:=by rw[hWh.out];exact zP (zP hBt oM 0 _) oM 1 _
      have rt0:(-t0).natAbs<=max 1 a.natAbs:=by rw[Int.natAbs_neg];exact rt0
      clear c1 c2 c3 c4 hWh hb kt k7' hx' hc it hv;obtain⟨sn,sa,sl,sc,ks,is⟩:=z9;obtain⟨tn,ta,tl,tc,kt,it⟩:=z11;obtain⟨c1,c2,c3,c4⟩:=k7.two;obtain⟨d1,d2,d3,d4⟩:=ks.two;obtain⟨f1,f2,f3,f4⟩:=kt.two;have lkt:=kt.lt;have kr1:=hk.r1;have kr2:=hk.r2;have kr3:=hk.r3;refine zF rfl (RI Wh (Wh.heap.size) _ 51
        [E 0 64 (.agg #[.bool xn,.slice xa xl xc]),E 1 65 (.agg #[.bool sn,.slice sa sl sc]),E 2 66 (.agg #[.bool tn,.slice ta tl tc])] [] [⟨3,w.heap.size+1+1,fun w v=>zR w v ((x:Int))⟩,⟨4,w.heap.size+1+1+1,fun w v=>zR w v (s0)⟩,⟨5,w.heap.size+1+1+1+1,fun w v=>zR w v ((-t0))⟩]) kR RI.start ?fin4 ?steps4
      case steps4=>
       refine⟨?_,?_,?_,?_,?_,?_,trivial⟩<;>(intro L T wS hL hd hcl hI K hK;try refine zA rfl ?_)
       ·have zt:=hI.k 7 rfl kR
        have cc0:=hI.cell c1 oM aU;have cc1:=hI.cell c2 oM aU;exact xgu
       ·have zt:=hI.k 9 rfl kR
        have cc0:=hI.cell d1 oM aU;have cc1:=hI.cell d2 oM aU;exact xgu
       ·have zt:=hI.k 11 rfl kR
        have cc0:=hI.cell f1 oM aU;have cc1:=hI.cell f2 oM aU;exact xgu
       ·have zt:=hI.k 4 rfl kR
        have zv:=hI.e mm0 (hd 0);obtain⟨⟨xo,yo,zb,-⟩,-⟩:=hI.ex _ mm0;replace zb:Blk wS (w.heap.size+1+1) 51 #[xo,yo]:=zb;obtain⟨zk1,zk2,zk3,zk4⟩:=zb.two;go_simp;exact hK _ _ (hI.storeE ⟨3,w.heap.size+1+1,_⟩ mm0 rfl hL rfl (zR.ext i7 hI.lext))
       ·have zt:=hI.k 5 rfl kR
        have zv:=hI.e mm1 (hd 1);obtain⟨⟨xo,yo,zb,-⟩,-⟩:=hI.ex _ mm1;replace zb:Blk wS (w.heap.size+1+1+1) 51 #[xo,yo]:=zb;obtain⟨zk1,zk2,zk3,zk4⟩:=zb.two;go_simp;exact hK _ _ (hI.storeE ⟨4,w.heap.size+1+1+1,_⟩ mm1 rfl hL rfl (zR.ext is hI.lext))
       ·have zt:=hI.k 6 rfl kR
        have zv:=hI.e mm2 (hd 2);obtain⟨⟨xo,yo,zb,-⟩,-⟩:=hI.ex _ mm2;replace zb:Blk wS (w.heap.size+1+1+1+1) 51 #[xo,yo]:=zb;obtain⟨zk1,zk2,zk3,zk4⟩:=zb.two;go_simp;exact hK _ _ (hI.storeE ⟨5,w.heap.size+1+1+1+1,_⟩ mm2 rfl hL rfl (zR.ext it hI.lext))
      intro T Wz hI;obtain⟨⟨exz3,eyz3,ebz3,eiz3⟩,-⟩:=hI.ex _ mm0;replace ebz3:Blk Wz (w.heap.size+1+1) 51 #[exz3,eyz3]:=ebz3;replace eiz3:zR Wz (.agg #[exz3,eyz3]) ((x:Int)):=eiz3 rfl;obtain⟨⟨exz4,eyz4,ebz4,eiz4⟩,-⟩:=hI.ex _ mm1;replace ebz4:Blk Wz (w.heap.size+1+1+1) 51 #[exz4,eyz4]:=ebz4;replace eiz4:zR Wz (.agg #[exz4,eyz4]) (s0):=eiz4 rfl;obtain⟨⟨exz5,eyz5,ebz5,eiz5⟩,-⟩:=hI.ex _ mm2;replace ebz5:Blk Wz (w.heap.size+1+1+1+1) 51 #[exz5,eyz5]:=ebz5;replace eiz5:zR Wz (.agg #[exz5,eyz5]) ((-t0)):=eiz5 rfl;have hT:=hI.finx kR kR;have hlWz:=hI.lext;have hbWz:=hI.bel (w.heap.size) oM aU;have holdWz:=hI.old;clear hI;simp only[zE3,zEz,E,EI,ptr,xgm,List.not_mem_nil,false_implies,implies_true,and_true,true_and,xgg,xgh,xgi,xgj]at hT;subst hT;go_wp2_with fail
      refine bodyPost_ret (zAv rfl _ rfl rfl rfl ebz3 ebz4 ebz5 rfl rfl rfl) rfl ⟨_,_,_,s0,(-t0),rfl,HG.out ▸ eiz3,eiz4,eiz5,hsum,ps0,rt0,hBt.trans hbWz⟩
     ·have hc:¬ qO b 0<0:=by unfold qO;rw[if_neg hb0];split<;>omega
      obtain⟨k,hkk⟩:∃k,qO b 0=k:=⟨_,rfl⟩;rw[hkk]at hc ⊢
      have hsum:s0*a+t0*b=((Int.gcd a b:Nat):Int):=by
       rw[<-hsum];have:(b.natAbs:Int)=b:=by omega
       rw[this]
      clear hkk;go_upto_region 15 with(fail)
      obtain⟨sn,sa,sl,sc,ks,is⟩:=z9;obtain⟨tn,ta,tl,tc,kt,it⟩:=z11;obtain⟨c1,c2,c3,c4⟩:=k7.two;obtain⟨d1,d2,d3,d4⟩:=ks.two;obtain⟨f1,f2,f3,f4⟩:=kt.two;have lkt:=kt.lt;have kr1:=hk.r1;have kr2:=hk.r2;have kr3:=hk.r3;refine zF rfl (RI wf (wf.heap.size) _ 51
        [E 0 64 (.agg #[.bool xn,.slice xa xl xc]),E 1 65 (.agg #[.bool sn,.slice sa sl sc]),E 2 66 (.agg #[.bool tn,.slice ta tl tc])] [] [⟨3,w.heap.size+1+1,fun w v=>zR w v ((x:Int))⟩,⟨4,w.heap.size+1+1+1,fun w v=>zR w v (s0)⟩,⟨5,w.heap.size+1+1+1+1,fun w v=>zR w v (t0)⟩]) kR RI.start ?fin5 ?steps5
      case steps5=>
       refine⟨?_,?_,?_,?_,?_,?_,trivial⟩<;>(intro L T wS hL hd hcl hI K hK;try refine zA rfl ?_)
       ·have zt:=hI.k 7 rfl kR
        have cc0:=hI.cell c1 oM aU;have cc1:=hI.cell c2 oM aU;exact xgu
       ·have zt:=hI.k 9 rfl kR
        have cc0:=hI.cell d1 oM aU;have cc1:=hI.cell d2 oM aU;exact xgu
       ·have zt:=hI.k 11 rfl kR
        have cc0:=hI.cell f1 oM aU;have cc1:=hI.cell f2 oM aU;exact xgu
       ·have zt:=hI.k 4 rfl kR
        have zv:=hI.e mm0 (hd 0);obtain⟨⟨xo,yo,zb,-⟩,-⟩:=hI.ex _ mm0;replace zb:Blk wS (w.heap.size+1+1) 51 #[xo,yo]:=zb;obtain⟨zk1,zk2,zk3,zk4⟩:=zb.two;go_simp;exact hK _ _ (hI.storeE ⟨3,w.heap.size+1+1,_⟩ mm0 rfl hL rfl (zR.ext i7 hI.lext))
       ·have zt:=hI.k 5 rfl kR
        have zv:=hI.e mm1 (hd 1);obtain⟨⟨xo,yo,zb,-⟩,-⟩:=hI.ex _ mm1;replace zb:Blk wS (w.heap.size+1+1+1) 51 #[xo,yo]:=zb;obtain⟨zk1,zk2,zk3,zk4⟩:=zb.two;go_simp;exact hK _ _ (hI.storeE ⟨4,w.heap.size+1+1+1,_⟩ mm1 rfl hL rfl (zR.ext is hI.lext))
       ·have zt:=hI.k 6 rfl kR
        have zv:=hI.e mm2 (hd 2);obtain⟨⟨xo,yo,zb,-⟩,-⟩:=hI.ex _ mm2;replace zb:Blk wS (w.heap.size+1+1+1+1) 51 #[xo,yo]:=zb;obtain⟨zk1,zk2,zk3,zk4⟩:=zb.two;go_simp;exact hK _ _ (hI.storeE ⟨5,w.heap.size+1+1+1+1,_⟩ mm2 rfl hL rfl (zR.ext it hI.lext))
      intro T Wz hI;obtain⟨⟨exz3,eyz3,ebz3,eiz3⟩,-⟩:=hI.ex _ mm0;replace ebz3:Blk Wz (w.heap.size+1+1) 51 #[exz3,eyz3]:=ebz3;replace eiz3:zR Wz (.agg #[exz3,eyz3]) ((x:Int)):=eiz3 rfl;obtain⟨⟨exz4,eyz4,ebz4,eiz4⟩,-⟩:=hI.ex _ mm1;replace ebz4:Blk Wz (w.heap.size+1+1+1) 51 #[exz4,eyz4]:=ebz4;replace eiz4:zR Wz (.agg #[exz4,eyz4]) (s0):=eiz4 rfl;obtain⟨⟨exz5,eyz5,ebz5,eiz5⟩,-⟩:=hI.ex _ mm2;replace ebz5:Blk Wz (w.heap.size+1+1+1+1) 51 #[exz5,eyz5]:=ebz5;replace eiz5:zR Wz (.agg #[exz5,eyz5]) (t0):=eiz5 rfl;have hT:=hI.finx kR kR;have hlWz:=hI.lext;have hbWz:=hI.bel (w.heap.size) oM aU;have holdWz:=hI.old;clear hI;simp only[zE3,zEz,E,EI,ptr,xgm,List.not_mem_nil,false_implies,implies_true,and_true,true_and,xgg,xgh,xgi,xgj]at hT;subst hT;go_wp2_with fail
      refine bodyPost_ret (zAv rfl _ rfl rfl rfl ebz3 ebz4 ebz5 rfl rfl rfl) rfl ⟨_,_,_,s0,t0,rfl,HG.out ▸ eiz3,eiz4,eiz5,hsum,ps0,rt0,hBt.trans hbWz⟩
  ·have hy0:0<y:=Nat.pos_of_ne_zero h0
   have hc:qO (y:Int) 0=1:=by unfold qO;rw[if_neg oM,if_pos oM]
   rw[hc];have hy0':(y:Int)≠0:=by omega
   have SX:Sm (x:Int):=by
    have hxb:=HN.out.xb;rcases Nat.le_total a.natAbs b.natAbs with hab|hab
    ·exact HS2.out.sm.mono (by rw[Int.natAbs_natCast];omega)
    ·exact HS1.out.sm.mono (by rw[Int.natAbs_natCast];omega)
   have SY:Sm (y:Int):=HS2.out.sm.mono (by have:=HN.out.yb;rw[Int.natAbs_natCast];exact this);have SX':=xgv SX;have SY':=xgv SY;clear SX SY;go_wp2_with fail
   refine(zBK _ _ (x:Int) (y:Int) wa i7.weak i8.weak SX'.out SY'.out hy0').mono ?_;rintro e w4 ⟨q0,r0,rfl,hq,hr,hb4⟩;obtain⟨qn,qa,ql,qc,qx,rfl,hq'⟩:=id hq;obtain⟨rn,ra,rl,rc,rx,rfl,hr'⟩:=id hr;have HQ':=xgw hq';have HR':=xgw hr';clear hq' hr' hc hy0';go_upto_region 6 with(fail)
   refine zC ?_;intro W5 hW5;obtain⟨hB5,T13,T14,hs5⟩:=qK hW5;have k7:=(k7.below hb4).below hB5;have k8:=(k8.below hb4).below hB5;have i8:=(i8.ext (lx hb4)).ext (lx hB5);have hk:=(hk.below hb4).below hB5;have z9:=(z9.below hb4).below hB5;have z10:=(z10.below hb4).below hB5;have z11:=(z11.below hb4).below hB5;have z12:=(z12.below hb4).below hB5;have hBt:=nx (nx hBt hb4) hB5;have hq:=hq.ext (lx hB5);have hr:=hr.ext (lx hB5);have hs4:=hb4.size;have l13:w6.heap.size+1<w4.heap.size:=by omega
   clear c1 c2 c3 c4 d1 d2 d3 d4 hW5 hb4 hB5 hsa hs4 lt12;obtain⟨d1,d2,d3,d4⟩:=k8.two;obtain⟨f1,f2,f3,f4⟩:=T14.two;refine zF rfl (RI W5 (W5.heap.size) _ 51
     [E 0 34 (.agg #[.bool yn,.slice ya yl yc]),E 1 35 (.agg #[.bool rn,.slice ra rl rc])] [] [⟨2,ca4,fun w v=>zR w v ((y:Int))⟩,⟨3,ca5,fun w v=>zR w v (((x:Int)%(y:Int)))⟩]) kR RI.start ?fin6 ?steps6
   case steps6=>
    refine⟨?_,?_,?_,?_,trivial⟩<;>(intro L T wS hL hd hcl hI K hK;try refine zA rfl ?_)
    ·have zt:=hI.k 8 rfl kR
     have zl:L[3]?≠some true:=fun hh=>by have:=hcl 3 _ rfl hh 0 kR;rw[hL]at this;cases this
     have cc0:=hI.cellE _ mm1 d1 zl;have cc1:=hI.cellE _ mm1 d2 zl;dsimp only at cc0;dsimp only at cc1;exact xgu
    ·have zt:=hI.k 14 rfl kR
     have cc0:=hI.cell f1 oM aU;have cc1:=hI.cell f2 oM aU;exact xgu
    ·have zt:=hI.k 7 rfl kR
     have zv:=hI.e mm0 (hd 0);obtain⟨⟨xo,yo,zb,-⟩,-⟩:=hI.ex _ mm0;replace zb:Blk wS (ca4) 51 #[xo,yo]:=zb;obtain⟨zk1,zk2,zk3,zk4⟩:=zb.two;go_simp;exact hK _ _ (hI.storeE ⟨2,ca4,_⟩ mm0 rfl hL rfl (zR.ext i8 hI.lext))
    ·have zt:=hI.k 8 rfl kR
     have zv:=hI.e mm1 (hd 1);obtain⟨⟨xo,yo,zb,-⟩,-⟩:=hI.ex _ mm1;replace zb:Blk wS (ca5) 51 #[xo,yo]:=zb;obtain⟨zk1,zk2,zk3,zk4⟩:=zb.two;go_simp;exact hK _ _ (hI.storeE ⟨3,ca5,_⟩ mm1 rfl hL rfl (zR.ext hr hI.lext))
   intro T W8 hI;obtain⟨⟨exa2,eya2,eba2,eia2⟩,-⟩:=hI.ex _ mm0;replace eba2:Blk W8 (ca4) 51 #[exa2,eya2]:=eba2;replace eia2:zR W8 (.agg #[exa2,eya2]) ((y:Int)):=eia2 rfl;obtain⟨⟨exa3,eya3,eba3,eia3⟩,-⟩:=hI.ex _ mm1;replace eba3:Blk W8 (ca5) 51 #[exa3,eya3]:=eba3;replace eia3:zR W8 (.agg #[exa3,eya3]) (((x:Int)%(y:Int))):=eia3 rfl;have hT:=hI.finx kR kR;have hlW8:=hI.lext;have hbW8:=hI.bel (w.heap.size) oM aU;have holdW8:=hI.old;clear hI;simp only[zE3,zEz,E,EI,ptr,xgm,List.not_mem_nil,false_implies,implies_true,and_true,true_and,xgg,xgh,xgi,xgj]at hT;subst hT;have hk:zH6 w W8 a b:=hk.old (fun k hk0=>holdW8 _ oM aU) hlW8;have z9:=z9.old (holdW8 _ oM aU) hlW8;have z10:=z10.old (holdW8 _ oM aU) hlW8;have z11:=z11.old (holdW8 _ oM aU) hlW8;have z12:=z12.old (holdW8 _ oM aU) hlW8;have z13:=(jS.mk T13 hq).old (holdW8 _ oM aU) hlW8;have z7:=jS.mk eba2 eia2;have z8:=jS.mk eba3 eia3;have hBt:=hBt.trans hbW8;have eq1:(x:Int)/(y:Int)=((x/y:Nat):Int):=rfl;rw[eq1]at z13;have hst:=HN.out.step hy0;have SP:qM (Sm (sgn σ p)):=⟨HS2.out.sm1 (by have:=HN.out.pb;rw[qD];omega)⟩;have SP':qM (Sm (sgn (!σ) p')):=⟨HS2.out.sm1 (by have:=HN.out.pb';rw[qD];omega)⟩;have SR:qM (Sm (sgn (!σ) r)):=⟨HS1.out.sm1 (by have:=HN.out.rb;rw[qD];omega)⟩;have SR':qM (Sm (sgn σ r')):=⟨HS1.out.sm1 (by have:=HN.out.rb';rw[qD];omega)⟩;have SQ:qM (Sm ((x/y:Nat):Int)):=⟨SX'.out.mono (by simp only[Int.natAbs_natCast];exact Nat.div_le_self _ _)⟩;have SQP:qM (Sm (((x/y:Nat):Int)*sgn (!σ) p')):=⟨HS2.out.sm1 (by have:=hst.pb';rw[Int.natAbs_mul,qD,Int.natAbs_natCast];omega)⟩;have SQR:qM (Sm (((x/y:Nat):Int)*sgn σ r')):=⟨HS1.out.sm1 (by have:=hst.rb';rw[Int.natAbs_mul,qD,Int.natAbs_natCast];omega)⟩;have HST:=xgw hst;clear hst;go_upto_region 7 with(fail)
   obtain⟨sn,sa,sl,sc,ks,is⟩:=z9;obtain⟨nn,na,nl,nc,kn,jn⟩:=z10;obtain⟨en,ea,el,ec,ke,je⟩:=z13;obtain⟨c1,c2,c3,c4⟩:=ks.two;obtain⟨d1,d2,d3,d4⟩:=kn.two;obtain⟨f1,f2,f3,f4⟩:=ke.two;have lke:=ke.lt;refine zF rfl (RI W8 (W8.heap.size) _ 51
     [E 0 36 (.agg #[.bool nn,.slice na nl nc]),E 1 37 (.agg #[.bool sn,.slice sa sl sc]),E 2 38 (.agg #[.bool en,.slice ea el ec]),E 3 39 (.agg #[.bool nn,.slice na nl nc]),EI 4 40 (((x/y:Nat):Int)*(sgn (!σ) p')),EI 5 41 ((sgn σ p)-((x/y:Nat):Int)*(sgn (!σ) p'))] [] [⟨6,w3.heap.size,fun w v=>zR w v ((sgn (!σ) p'))⟩,⟨7,w3.heap.size+1,fun w v=>zR w v ((sgn σ p)-((x/y:Nat):Int)*(sgn (!σ) p'))⟩]) kR RI.start ?fin7 ?steps7
   case steps7=>
    refine⟨?_,?_,?_,?_,?_,?_,?_,?_,trivial⟩<;>(intro L T wS hL hd hcl hI K hK;try refine zA rfl ?_)
    ·have zt:=hI.k 10 rfl kR
     have zl:L[7]?≠some true:=fun hh=>by have:=hcl 7 _ rfl hh 0 kR;rw[hL]at this;cases this
     have cc0:=hI.cellE _ mm1 d1 zl;have cc1:=hI.cellE _ mm1 d2 zl;dsimp only at cc0;dsimp only at cc1;exact xgu
    ·have zt:=hI.k 9 rfl kR
     have zl:L[6]?≠some true:=fun hh=>by have:=hcl 6 _ rfl hh 1 kR;rw[hL]at this;cases this
     have cc0:=hI.cellE _ mm0 c1 zl;have cc1:=hI.cellE _ mm0 c2 zl;dsimp only at cc0;dsimp only at cc1;exact xgu
    ·have zt:=hI.k 13 rfl kR
     have cc0:=hI.cell f1 oM aU;have cc1:=hI.cell f2 oM aU;exact xgu
    ·have zt:=hI.k 10 rfl kR
     have zl:L[7]?≠some true:=fun hh=>by have:=hcl 7 _ rfl hh 3 kR;rw[hL]at this;cases this
     have cc0:=hI.cellE _ mm1 d1 zl;have cc1:=hI.cellE _ mm1 d2 zl;dsimp only at cc0;dsimp only at cc1;exact xgu
    ·have zt2:=hI.e mm2 (hd 2)
     have zt3:=hI.e mm3 (hd 3);go_simp;refine(zBw _ _ ((x/y:Nat):Int) (sgn (!σ) p') _ (je.ext hI.lext).weak (jn.ext hI.lext).weak SQ.out SP'.out).mono ?_;exact xgo
    ·have zt1:=hI.e mm1 (hd 1)
     obtain⟨v4,zt4,h4⟩:=hI.vi mm4 (hd 4);go_simp;refine(zLP _ _ (sgn σ p) (((x/y:Nat):Int)*(sgn (!σ) p')) _ (is.ext hI.lext).weak h4.weak SP.out SQP.out).mono ?_;exact xgo
    ·have zt:=hI.k 9 rfl kR
     have zv:=hI.e mm0 (hd 0);obtain⟨⟨xo,yo,zb,-⟩,-⟩:=hI.ex _ mm0;replace zb:Blk wS (w3.heap.size) 51 #[xo,yo]:=zb;obtain⟨zk1,zk2,zk3,zk4⟩:=zb.two;go_simp;exact hK _ _ (hI.storeE ⟨6,w3.heap.size,_⟩ mm0 rfl hL rfl (zR.ext jn hI.lext))
    ·have zt:=hI.k 10 rfl kR
     obtain⟨v,zv,hv⟩:=hI.vi mm5 (hd 5);obtain⟨vneg,vao,vlen,vcap,vls,rfl,hv'⟩:=id hv;obtain⟨⟨xo,yo,zb,-⟩,-⟩:=hI.ex _ mm1;replace zb:Blk wS (w3.heap.size+1) 51 #[xo,yo]:=zb;obtain⟨zk1,zk2,zk3,zk4⟩:=zb.two;go_simp;exact hK _ _ (hI.storeE ⟨7,w3.heap.size+1,_⟩ mm1 rfl hL rfl hv)
   intro T W9 hI;obtain⟨⟨exb6,eyb6,ebb6,eib6⟩,-⟩:=hI.ex _ mm0;replace ebb6:Blk W9 (w3.heap.size) 51 #[exb6,eyb6]:=ebb6;replace eib6:zR W9 (.agg #[exb6,eyb6]) ((sgn (!σ) p')):=eib6 rfl;obtain⟨⟨exb7,eyb7,ebb7,eib7⟩,-⟩:=hI.ex _ mm1;replace ebb7:Blk W9 (w3.heap.size+1) 51 #[exb7,eyb7]:=ebb7;replace eib7:zR W9 (.agg #[exb7,eyb7]) ((sgn σ p)-((x/y:Nat):Int)*(sgn (!σ) p')):=eib7 rfl;have hT:=hI.finx kR kR;have hlW9:=hI.lext;have hbW9:=hI.bel (w.heap.size) oM aU;have holdW9:=hI.old;clear hI;simp only[zE3,zEz,E,EI,ptr,xgm,List.not_mem_nil,false_implies,implies_true,and_true,true_and,xgg,xgh,xgi,xgj]at hT;obtain⟨vb4,hb4,vb5,hb5,rfl⟩:=hT;rw[(zCI σ p (x/y) p')]at eib7;have z13:=jS.mk ke je;have hk:zH6 w W9 a b:=hk.old (fun k hk0=>holdW9 _ oM aU) hlW9;have z7:=z7.old (holdW9 _ oM aU) hlW9;have z8:=z8.old (holdW9 _ oM aU) hlW9;have z13:=z13.old (holdW9 _ oM aU) hlW9;have z11:=z11.old (holdW9 _ oM aU) hlW9;have z12:=z12.old (holdW9 _ oM aU) hlW9;have z9:=jS.mk ebb6 eib6;have z10:=jS.mk ebb7 eib7;have hBt:=hBt.trans hbW9;clear c1 c2 c3 c4 d1 d2 d3 d4 f1 f2 f3 f4 holdW9 hlW9 hbW9;have er:sgn (!σ) r-((x/y:Nat):Int)*sgn σ r'=sgn (!σ) (r+x/y*r'):=by
    have:=zCI (!σ) r (x/y) r';rwa[Bool.not_not]at this
   go_upto_region 8 with(fail)
   obtain⟨sn,sa,sl,sc,ks,is⟩:=z11;obtain⟨nn,na,nl,nc,kn,jn⟩:=z12;obtain⟨en,ea,el,ec,ke,je⟩:=z13;obtain⟨c1,c2,c3,c4⟩:=ks.two;obtain⟨d1,d2,d3,d4⟩:=kn.two;obtain⟨f1,f2,f3,f4⟩:=ke.two;have lke:=ke.lt;refine zF rfl (RI W9 (W9.heap.size) _ 51
     [E 0 42 (.agg #[.bool nn,.slice na nl nc]),E 1 43 (.agg #[.bool sn,.slice sa sl sc]),E 2 44 (.agg #[.bool en,.slice ea el ec]),E 3 45 (.agg #[.bool nn,.slice na nl nc]),EI 4 46 (((x/y:Nat):Int)*(sgn σ r')),EI 5 47 ((sgn (!σ) r)-((x/y:Nat):Int)*(sgn σ r'))] [] [⟨6,w6.heap.size,fun w v=>zR w v ((sgn σ r'))⟩,⟨7,w6.heap.size+1,fun w v=>zR w v ((sgn (!σ) r)-((x/y:Nat):Int)*(sgn σ r'))⟩]) kR RI.start ?fin8 ?steps8
   case steps8=>
    refine⟨?_,?_,?_,?_,?_,?_,?_,?_,trivial⟩<;>(intro L T wS hL hd hcl hI K hK;try refine zA rfl ?_)
    ·have zt:=hI.k 12 rfl kR
     have zl:L[7]?≠some true:=fun hh=>by have:=hcl 7 _ rfl hh 0 kR;rw[hL]at this;cases this
     have cc0:=hI.cellE _ mm1 d1 zl;have cc1:=hI.cellE _ mm1 d2 zl;dsimp only at cc0;dsimp only at cc1;exact xgu
    ·have zt:=hI.k 11 rfl kR
     have zl:L[6]?≠some true:=fun hh=>by have:=hcl 6 _ rfl hh 1 kR;rw[hL]at this;cases this
     have cc0:=hI.cellE _ mm0 c1 zl;have cc1:=hI.cellE _ mm0 c2 zl;dsimp only at cc0;dsimp only at cc1;exact xgu
    ·have zt:=hI.k 13 rfl kR
     have cc0:=hI.cell f1 oM aU;have cc1:=hI.cell f2 oM aU;exact xgu
    ·have zt:=hI.k 12 rfl kR
     have zl:L[7]?≠some true:=fun hh=>by have:=hcl 7 _ rfl hh 3 kR;rw[hL]at this;cases this
     have cc0:=hI.cellE _ mm1 d1 zl;have cc1:=hI.cellE _ mm1 d2 zl;dsimp only at cc0;dsimp only at cc1;exact xgu
    ·have zt2:=hI.e mm2 (hd 2)
     have zt3:=hI.e mm3 (hd 3);go_simp;refine(zBw _ _ ((x/y:Nat):Int) (sgn σ r') _ (je.ext hI.lext).weak (jn.ext hI.lext).weak SQ.out SR'.out).mono ?_;exact xgo
    ·have zt1:=hI.e mm1 (hd 1)
     obtain⟨v4,zt4,h4⟩:=hI.vi mm4 (hd 4);go_simp;refine(zLP _ _ (sgn (!σ) r) (((x/y:Nat):Int)*(sgn σ r')) _ (is.ext hI.lext).weak h4.weak SR.out SQR.out).mono ?_;exact xgo
    ·have zt:=hI.k 11 rfl kR
     have zv:=hI.e mm0 (hd 0);obtain⟨⟨xo,yo,zb,-⟩,-⟩:=hI.ex _ mm0;replace zb:Blk wS (w6.heap.size) 51 #[xo,yo]:=zb;obtain⟨zk1,zk2,zk3,zk4⟩:=zb.two;go_simp;exact hK _ _ (hI.storeE ⟨6,w6.heap.size,_⟩ mm0 rfl hL rfl (zR.ext jn hI.lext))
    ·have zt:=hI.k 12 rfl kR
     obtain⟨v,zv,hv⟩:=hI.vi mm5 (hd 5);obtain⟨vneg,vao,vlen,vcap,vls,rfl,hv'⟩:=id hv;obtain⟨⟨xo,yo,zb,-⟩,-⟩:=hI.ex _ mm1;replace zb:Blk wS (w6.heap.size+1) 51 #[xo,yo]:=zb;obtain⟨zk1,zk2,zk3,zk4⟩:=zb.two;go_simp;exact hK _ _ (hI.storeE ⟨7,w6.heap.size+1,_⟩ mm1 rfl hL rfl hv)
   intro T WA hI;obtain⟨⟨exc6,eyc6,ebc6,eic6⟩,-⟩:=hI.ex _ mm0;replace ebc6:Blk WA (w6.heap.size) 51 #[exc6,eyc6]:=ebc6;replace eic6:zR WA (.agg #[exc6,eyc6]) ((sgn σ r')):=eic6 rfl;obtain⟨⟨exc7,eyc7,ebc7,eic7⟩,-⟩:=hI.ex _ mm1;replace ebc7:Blk WA (w6.heap.size+1) 51 #[exc7,eyc7]:=ebc7;replace eic7:zR WA (.agg #[exc7,eyc7]) ((sgn (!σ) r)-((x/y:Nat):Int)*(sgn σ r')):=eic7 rfl;have hT:=hI.finx kR kR;have hlWA:=hI.lext;have hbWA:=hI.bel (w.heap.size) oM aU;have holdWA:=hI.old;clear hI;simp only[zE3,zEz,E,EI,ptr,xgm,List.not_mem_nil,false_implies,implies_true,and_true,true_and,xgg,xgh,xgi,xgj]at hT;obtain⟨vc4,hc4,vc5,hc5,rfl⟩:=hT;rw[er]at eic7;have z13:=jS.mk ke je;have hk:zH6 w WA a b:=hk.old (fun k hk0=>holdWA _ oM aU) hlWA;have z7:=z7.old (holdWA _ oM aU) hlWA;have z8:=z8.old (holdWA _ oM aU) hlWA;have z13:=z13.old (holdWA _ oM aU) hlWA;have z9:=z9.old (holdWA _ oM aU) hlWA;have z10:=z10.old (holdWA _ oM aU) hlWA;have z11:=jS.mk ebc6 eic6;have z12:=jS.mk ebc7 eic7;have hBt:=hBt.trans hbWA;clear c1 c2 c3 c4 d1 d2 d3 d4 f1 f2 f3 f4 holdWA hlWA hbWA;go_wp2;go_roundw
   case rel=>
    exact⟨y,x%y,!σ,p',_,r',_,HST.out,hBt,hk,z7,z8,z9,by rw[Bool.not_not];exact z10,by rw[Bool.not_not];exact z11,z12⟩
   case measure=>
    obtain⟨zn,za,zl,zc,k8,i8⟩:=z8;rw[hf _ _ _ _ _ k8 i8,hfr];have h5:=Int.emod_nonneg (x:Int) (show(y:Int)≠0 by omega);have h6:=Int.emod_lt (x:Int) (show(y:Int)≠0 by omega);omega
end Go.Proofs.YtgnmdddaiefooaaGreat
