/- Joined. -/
import Derived.StillTailTactics
import Derived.Test.YtkidaebmhlijlaaGreatS05
import Derived.Test.YtkidaebmhlijlaaGreatS06
set_option linter.unusedVariables false
set_option linter.unusedSimpArgs false
set_option linter.unusedSectionVars false
set_option maxHeartbeats 16000000
set_option maxRecDepth 100000
variable{cs:Array Go.Value}{C R a z:Int}{M rs:List (List Int)}{ls zs:List Int}{b base cap i r s:Nat}{ao:Option Go.Addr}{t:Go.TypeId}{x:Go.Value}{w w' wr:Go.World}
namespace Go.Proofs.YtkidaebmhlijlaaGreat
open Go.RowKit
theorem zFc(w:World):jT w (.agg #[.bool false,.slice none 0 0]) 0:=
 ⟨false,none,0,0,[],rfl,rfl,xgf _,by omega,qV.nil _ _,zBC.nil,rfl,fun _=>rfl⟩
def zYh(w:World)(a b:Nat)(e:Ending)(w':World):Prop:=
 ∃v1 v2,e= .returned (.tuple #[v1,v2])/\jT w' v1 ((a/b:Nat):Int)/\jT w' v2 ((a%b:Nat):Int)/\Below w.heap.size w w'
def zSy:Nat:=1099511627774
theorem zEH:zSy=1099511627774:=rfl
structure Smd(z:Int):Prop where
 lt:z.natAbs<B32^zSy
theorem Smd.sm(h:Smd z):Sm z:=zH h.lt (zF5 (by rw[zEH,zDD];omega))
theorem Smd.mono{y:Int}(h:Smd z)(hy:y.natAbs<=z.natAbs):Smd y:=⟨zJ hy h.lt⟩
theorem zJW(a b:Nat)(h:a+1<=b):B32^a<B32^b:=by
 have h1:B32^(a+1)<=B32^b:=zF5 h;rw[qF]at h1;have h2:0<B32^a:=qP dE;have h3:B32^a*2<=B32^a*B32:=zF _ dE;omega
theorem Smd.sm1{y:Int}(h:Smd z)(hy:y.natAbs<=z.natAbs+1):Sm y:=
 zJ hy (zJ h.lt (zJW zSy LIM (by rw[zEH,zDD];omega)))

def zCM(w:World)(b:Nat)(z:Int):Prop:=∃n a l c,Blk w b 43 #[.bool n,.slice a l c]/\jT w (.agg #[.bool n,.slice a l c]) z
theorem zCM.mk{y:Value}(h:Blk w b 43 #[x,y])(hv:jT w (.agg #[x,y]) z):zCM w b z:=by
 obtain⟨n,a,l,c,xs,e,h2⟩:=id hv;injection e with e
 simp only[Array.mk.injEq,List.cons.injEq,and_true]at e;obtain⟨rfl,rfl⟩:=e;exact⟨_,_,_,_,h,hv⟩
theorem zCM.old(h:zCM w b z)(e:w'.heap[b]?=w.heap[b]?)(x:zBq w w'):zCM w' b z:=by
 obtain⟨n,a,l,c,h1,h2⟩:=h;exact⟨n,a,l,c,e.trans h1,h2.ext x⟩
theorem zCM.lt(h:zCM w b z):b<w.heap.size:=by
 obtain⟨n,a,l,c,h1,h2⟩:=h;exact h1.lt
theorem zCM.below(h:zCM w b z)(hb:Below w.heap.size w w'):zCM w' b z:=h.old (hb.block _ h.lt) (lx hb)
theorem zCM.far(h:zCM w b z)(hne:b≠r)(hr:Blk w r t cs)(ht:t≠tU)(x y:Value):zCM ((w.setCell ⟨r,0,none⟩ x).setCell ⟨r,1,none⟩ y) b z:=
 h.old ((qR _ ⟨r,1,none⟩ _ b hne).trans (qR _ ⟨r,0,none⟩ _ b hne)) (hr.lext2 ht x y)
theorem zCM.put{c0 c1:Value}(hr:Blk w r 43 #[c0,c1]){y:Value}(hv:jT w (.agg #[x,y]) z):zCM ((w.setCell ⟨r,0,none⟩ x).setCell ⟨r,1,none⟩ y) r z:=
 zCM.mk (hr.put2 _ _) (hv.ext (hr.lext2 dE _ _))
structure zNv(w wr:World)(a b:Int):Prop where
 a:zCM wr w.heap.size a
 b:zCM wr (w.heap.size+1) b
 r1:Blk wr (w.heap.size+1+1) 43 #[.bool false,.slice none 0 0]
 r2:Blk wr (w.heap.size+1+1+1) 43 #[.bool false,.slice none 0 0]
 r3:Blk wr (w.heap.size+1+1+1+1) 43 #[.bool false,.slice none 0 0]
theorem zNv.old{b:Int}(h:zNv w wr a b)(e:∀k,k<=w.heap.size+1+1+1+1->w'.heap[k]?=wr.heap[k]?)(x:zBq wr w'):zNv w w' a b:=
 ⟨h.a.old (e _ oM) x,h.b.old (e _ oM) x,(e _ oM).trans h.r1,(e _ oM).trans h.r2,(e _ oM).trans h.r3⟩
theorem zNv.below{b:Int}(h:zNv w wr a b)(hb:Below wr.heap.size wr w'):zNv w w' a b:=
 h.old (fun k hk=>hb.block k (by have:=h.r3.lt;omega)) (lx hb)
structure zVG(a b:Int)(x y:Nat)(σ:Bool)(p p' r r':Nat):Prop where
 hg:Nat.gcd x y=Int.gcd a b
 hx:(x:Int)=sgn σ p*(a.natAbs:Int)+sgn (!σ) r*(b.natAbs:Int)
 hy:(y:Int)=sgn (!σ) p'*(a.natAbs:Int)+sgn σ r'*(b.natAbs:Int)
 hb:p'*x+p*y=b.natAbs
 ha:r'*x+r*y=a.natAbs
 pb:p<=max 1 b.natAbs
 pb':p'<=max 1 b.natAbs
 rb:r<=max 1 a.natAbs
 rb':r'<=max 1 a.natAbs
 yb:y<=b.natAbs
 xb:x<=max a.natAbs b.natAbs
theorem zVG.start(a b:Int):zVG a b a.natAbs b.natAbs false 1 0 0 1:=
 ⟨rfl,by simp,by simp,by simp,by simp,by omega,by omega,by omega,by omega,xgf _,by omega⟩
theorem zF6(σ:Bool)(p q p':Nat):sgn σ p-(q:Int)*sgn (!σ) p'=sgn σ (p+q*p'):=by
 have e:((q*p':Nat):Int)=(q:Int)*(p':Int):=yP _ _;cases σ
 ·show(p:Int)-(q:Int)*(-(p':Int))=((p+q*p':Nat):Int)
  rw[zAP,e,zDp];omega
 show-(p:Int)-(q:Int)*((p':Nat):Int)=-((p+q*p':Nat):Int);rw[zAP,e];omega
theorem zVG.step{b:Int}{x y:Nat}{σ:Bool}{p p' r':Nat}(h:zVG a b x y σ p p' r r')(hy:0<y):
  zVG a b y (x%y) (!σ) p' (p+x/y*p') r' (r+x/y*r'):=by
 have hd:=jU x y;have hm:=yV x hy;have e1:(p+x/y*p')*y+p'*(x%y)=b.natAbs:=by
  rw[<-h.hb];have:p'*x=p'*(y*(x/y))+p'*(x%y):=by rw[<-zAF,hd]
  rw[this,zY,zN (x/y) p',zC,zN (x/y) y];omega
 have e2:(r+x/y*r')*y+r'*(x%y)=a.natAbs:=by
  rw[<-h.ha];have:r'*x=r'*(y*(x/y))+r'*(x%y):=by rw[<-zAF,hd]
  rw[this,zY,zN (x/y) r',zC,zN (x/y) y];omega
 have b1:p+x/y*p'<=b.natAbs:=by
  have:=zQ (p+x/y*p') hy;omega
 have b2:r+x/y*r'<=a.natAbs:=by
  have:=zQ (r+x/y*r') hy;omega
 refine⟨?_,by rw[zCB];exact h.hy,?_,e1,e2,h.pb',by omega,h.rb',by omega,?_,by have:=h.yb;omega⟩;rw[<-h.hg,Nat.gcd_comm x y,Nat.gcd_rec y x,Nat.gcd_comm]
 ·rw[zCB]
  have hq:((x%y:Nat):Int)=(x:Int)-((x/y:Nat):Int)*(y:Int):=by
   have:((y*(x/y)+x%y:Nat):Int)=(x:Int):=by rw[hd]
   rw[zAP,yP,qL]at this;omega
  rw[hq,h.hx,h.hy,<-zF6,<-zF6 (!σ) r (x/y) r',zCB];simp only[Int.sub_mul,Int.mul_add,Int.mul_assoc];omega
 have:=h.yb;omega
def zWk(w:World)(a b:Int)(e:Ending)(w':World):Prop:=
 ∃v1 v2 v3 s t,e= .returned (.tuple #[v1,v2,v3])/\jT w' v1 ((Int.gcd a b:Nat):Int)/\jT w' v2 s/\jT w' v3 t/\s*a+t*b=((Int.gcd a b:Nat):Int)∧
  s.natAbs<=max 1 b.natAbs/\t.natAbs<=max 1 a.natAbs/\Below w.heap.size w w'
theorem zQ7(v1 v2:Value)(a b:Int)(w:World)(h1:jT w v1 a)(h2:jT w v2 b)(s1:Smd a)(s2:Smd b):
  Calls Tryz.prog 187 #[v1,v2] w (zWk w a b):=by
 obtain⟨neg1,ao1,n1,cap1,xs,rfl,i1⟩:=id h1;obtain⟨neg2,ao2,n2,cap2,ys,rfl,i2⟩:=id h2;have HS1:=xgw s1;have HS2:=xgw s2;clear s1 s2 i1 i2;go_enter Tryz.func187,Tryz.ntmps187;go_upto_region 1 with(fail)
 refine zD ?_;intro W0 hW0;obtain⟨hB0,bx1,bx2,br1,br2,br3,hs0⟩:=zXT hW0;have h1:=h1.ext (lx hB0);have h2:=h2.ext (lx hB0);have hk:zNv w W0 a b:=⟨zCM.mk bx1 h1,zCM.mk bx2 h2,br1,br2,br3⟩;obtain⟨c1,c2,c3,c4⟩:=bx1.two;obtain⟨d1,d2,d3,d4⟩:=bx2.two;have SA:=HS1.out.sm;have SB:=HS2.out.sm;refine zCn [pcI 1 (((a.natAbs:Nat):Int)),pcI 3 (((b.natAbs:Nat):Int)),pbA 4 43 2,pbA 5 43 2,pbS 6 4 43 2,pbS 7 5 43 2] ?_;refine sRd ?_;refine sRc (fun wS hI Gk hG=>?_) (fun va1 hv=>?_)
 ·go_simp
  exact ck hG (zQY _ a _ (h1.ext hI.lext).weak SA)
 obtain⟨xa4,ya4,rfl,qa4⟩:=zLF hv;clear hv;refine sRd ?_;refine sRc (fun wS hI Gk hG=>?_) (fun va3 hv=>?_)
 ·go_simp
  exact ck hG (zQY _ b _ (h2.ext hI.lext).weak SB)
 obtain⟨xa5,ya5,rfl,qa5⟩:=zLF hv;clear hv;refine sRa (cs:=#[.bool false,.slice none 0 0]) fun ca4 ga4=>?_
 refine sRa (cs:=#[.bool false,.slice none 0 0]) fun ca5 ga5=>?_
 refine sRs ca4 (.agg #[xa4,ya4]) ?_ qa4;refine sRs ca5 (.agg #[xa5,ya5]) ?_ qa5;refine sRb ?_;simp only[FA,FC,FN,ptr,List.nil_append,List.cons_append,Act.put,xgh,xgi,xgj];intro W1 hbW1 ha1 ha3 ka4 ka5 na4 na5;replace ka4:Blk W1 ca4 43 #[xa4,ya4]:=ka4 _ rfl;have ia4:=ha1;replace ka5:Blk W1 ca5 43 #[xa5,ya5]:=ka5 _ rfl;have ia5:=ha3;have na4_5:ca4≠ca5:=na4 (5,ca5) sI;clear na4 na5;have hk:=hk.below hbW1;have hBt:=nx hB0 hbW1;have z7:=zCM.mk ka4 ia4;have z8:=zCM.mk ka5 ia5;have l7:=z7.lt;have l8:=z8.lt;clear c1 c2 c3 c4 d1 d2 d3 d4 SA SB h1 h2 bx1 bx2 br1 br2 br3 ha1 ha3 ka4 ia4 ka5 ia5 hW0;go_wp2_with fail
 refine(zGK 1 W1 oM oM).mono ?_;rintro e w2 ⟨v,rfl,hv,hb2⟩;obtain⟨an,aa,al,ac,ax,rfl,ha⟩:=id hv;have HA:=xgw ha;clear ha;go_wp2_with fail
 refine(zGK 0 w2 oM oM).mono ?_;rintro e w3 ⟨u,rfl,hu,hb3⟩;obtain⟨bn,ba,bl,bc,bx,rfl,hb⟩:=id hu;have HB:=xgw hb;clear hb;go_upto_region 3 with(fail)
 refine zD ?_;intro W4 hW4;obtain⟨hB4,T9,T10,hs4⟩:=zAd hW4;have hk:=((hk.below hb2).below hb3).below hB4;have hBt:=nx (nx (nx hBt hb2) hb3) hB4;have z7:=((z7.below hb2).below hb3).below hB4;have z8:=((z8.below hb2).below hb3).below hB4;have z9:=zCM.mk T9 (hv.ext ((lx hb3).trans (lx hB4)));have z10:=zCM.mk T10 (hu.ext (lx hB4));have hs1':=hb2.size;have hs2':=hb3.size;have hs3':=hbW1.size;clear hv hu hb2 hb3 hB4 T9 T10 hW4;go_wp2_with fail
 refine(zGK 0 W4 oM oM).mono ?_;rintro e w5 ⟨v,rfl,hv,hb2⟩;obtain⟨cn,ca,cl,cc,cx,rfl,ha⟩:=id hv;have HA':=xgw ha;clear ha;go_wp2_with fail
 refine(zGK 1 w5 oM oM).mono ?_;rintro e w6 ⟨u,rfl,hu,hb3⟩;obtain⟨dn,da,dl,dc,dx,rfl,hb⟩:=id hu;have HB':=xgw hb;clear hb;go_upto_block 0 with(fail)
 refine zD ?_;intro W7 hW7;obtain⟨hB7,T11,T12,hs7⟩:=zAd hW7;have hk:=((hk.below hb2).below hb3).below hB7;have hBt:=nx (nx (nx hBt hb2) hb3) hB7;have z7:=((z7.below hb2).below hb3).below hB7;have z8:=((z8.below hb2).below hb3).below hB7;have z9:=((z9.below hb2).below hb3).below hB7;have z10:=((z10.below hb2).below hb3).below hB7;have z11:=zCM.mk T11 (hv.ext ((lx hb3).trans (lx hB7)));have z12:=zCM.mk T12 (hu.ext (lx hB7));have hs5':=hb2.size;have hs6':=hb3.size;clear hv hu hb2 hb3 hB7 T11 T12 hW7;obtain⟨f,hf⟩:=zTf;have lt8:=z8.lt;have lt7:=z7.lt;have q7:w.heap.size+1+1+1+1<ca4:=by omega
 have q8:w.heap.size+1+1+1+1<ca5:=by omega
 have q79:ca4<w3.heap.size:=by omega
 have q89:ca5<w3.heap.size:=by omega
 have q11:w3.heap.size+1<w6.heap.size:=by omega
 clear lt7 lt8 l7 l8 hs0 hs4 hs5' hs6' hs1' hs2' hs3' ga4 ga5;go_wp2;go_loopw [] (fun wr=>∃(x y:Nat) (σ:Bool) (p p' r r':Nat),zVG a b x y σ p p' r r'/\Below w.heap.size w wr/\zNv w wr a b/\zCM wr ca4 x/\zCM wr ca5 y/\zCM wr w3.heap.size (sgn σ p)/\zCM wr (w3.heap.size+1) (sgn (!σ) p')∧
  zCM wr w6.heap.size (sgn (!σ) r)/\zCM wr (w6.heap.size+1) (sgn σ r')) (fun wr=>(f wr ca5).natAbs)
 case atStart=>exact⟨_,_,_,_,_,_,_,zVG.start a b,hBt,hk,z7,z8,z9,z10,z11,z12⟩
 obtain⟨x,y,σ,p,p',r,r',hN,hBt,hk,z7,z8,z9,z10,z11,z12⟩:=hrel;have HN:=xgw hN;clear hN;have lt12:=z12.lt;obtain⟨yn,ya,yl,yc,k8,i8⟩:=z8;have hfr:=hf _ _ _ _ _ k8 i8;obtain⟨d1,d2,d3,d4⟩:=k8.two;go_wp2_with fail
 refine(zAa _ _ wr i8.weak).mono ?_;rintro e wa ⟨rfl,hba⟩;have k8:=k8.below hba;have i8:=i8.ext (lx hba);have hk:=hk.below hba;have hBt:=nx hBt hba;have z7:=z7.below hba;have z9:=z9.below hba;have z10:=z10.below hba;have z11:=z11.below hba;have z12:=z12.below hba;have hsa:=hba.size;clear d1 d2 d3 d4 hba;obtain⟨d1,d2,d3,d4⟩:=k8.two;obtain⟨xn,xa,xl,xc,k7,i7⟩:=z7;obtain⟨c1,c2,c3,c4⟩:=k7.two;by_cases h0:y=0
 ·have hc:zAp (y:Int) 0=0:=by subst h0;rfl
  rw[hc];have hG:(x:Int)=((Int.gcd a b:Nat):Int):=by
   have:=HN.out.hg;rw[h0,Nat.gcd_zero_right]at this;rw[this]
  have HG:=xgw hG;clear hG hfr lt12;go_wp2_with fail
  refine(zAa _ _ wa i7.weak).mono ?_;rintro e wb ⟨rfl,hb⟩;have k7:=k7.below hb;have i7:=i7.ext (lx hb);have hk:=hk.below hb;have hBt:=nx hBt hb;have z9:=z9.below hb;have z11:=z11.below hb;clear c1 c2 c3 c4 d1 d2 d3 d4 hb z10 z12 k8 i8 hc hsa;by_cases hx0:x=0
  ·have hc:zAp (x:Int) 0=0:=by subst hx0;rfl
   rw[hc];obtain⟨e1,e2,e3,e4⟩:=hk.r1.two;obtain⟨f1,f2,f3,f4⟩:=hk.r2.two;obtain⟨g1,g2,g3,g4⟩:=hk.r3.two;go_wp2_with fail
   refine bodyPost_ret (zEQ rfl _ rfl rfl rfl ((((hk.r1.put2 _ _).far oM _ _).far oM _ _).far oM _ _|>.far oM _ _) ((((hk.r2.far oM _ _).far oM _ _).put2 _ _).far oM _ _|>.far oM _ _) ((((hk.r3.far oM _ _).far oM _ _).far oM _ _).far oM _ _|>.put2 _ _) rfl rfl rfl) rfl ?_;refine⟨_,_,_,0,0,rfl,?_,zFc _,zFc _,?_,by omega,by omega,yJ (yJ (yJ (yJ (yJ (yJ hBt oM 0 _) oM 1 _) oM 0 _) oM 1 _) oM 0 _) oM 1 _⟩;rw[<-HG.out,hx0];exact zFc _;rw[<-HG.out,hx0];simp
  have hc:zAp (x:Int) 0=1:=by unfold zAp;rw[if_neg oM,if_pos oM]
  rw[hc];obtain⟨an,aa,al,ac,ka,ia⟩:=hk.a;obtain⟨c1,c2,c3,c4⟩:=ka.two;go_wp2_with fail
  refine(zAa _ _ wb ia.weak).mono ?_;rintro e wc ⟨rfl,hb⟩;have k7:=k7.below hb;have i7:=i7.ext (lx hb);have hk:=hk.below hb;have hBt:=nx hBt hb;have z9:=z9.below hb;have z11:=z11.below hb;clear c1 c2 c3 c4 hb ka ia hc;have hsum:sgn σ p*(a.natAbs:Int)+sgn (!σ) r*(b.natAbs:Int)=((Int.gcd a b:Nat):Int):=by rw[<-HG.out,HN.out.hx]
  have pb:=HN.out.pb;have rb:=HN.out.rb;have SP:zAN (Sm (sgn σ p)):=⟨HS2.out.sm1 (by rw[zBK];omega)⟩;have SR:zAN (Sm (sgn (!σ) r)):=⟨HS1.out.sm1 (by rw[zBK];omega)⟩;obtain⟨s0,hs0⟩:∃s0,sgn σ p=s0:=⟨_,rfl⟩;obtain⟨t0,ht0⟩:∃t0,sgn (!σ) r=t0:=⟨_,rfl⟩;have ps0:s0.natAbs<=max 1 b.natAbs:=by rw[<-hs0,zBK];exact pb
  have rt0:t0.natAbs<=max 1 a.natAbs:=by rw[<-ht0,zBK];exact rb
  rw[hs0]at z9 hsum SP;rw[ht0]at z11 hsum SR;clear hs0 ht0 pb rb;by_cases ha0:a<0
  ·have hc:zAp a 0=-1:=by unfold zAp;rw[if_pos ha0]
   have hsum:-s0*a+t0*(b.natAbs:Int)=((Int.gcd a b:Nat):Int):=by
    rw[<-hsum];have:(a.natAbs:Int)=-a:=by omega
    rw[this,zC6 s0 a]
   rw[hc];obtain⟨sn,sa,sl,sc,ks,is⟩:=z9;obtain⟨c1,c2,c3,c4⟩:=ks.two;go_wp2_with fail
   refine(zBS _ s0 wc is.weak SP.out).mono ?_;rintro e wd ⟨v,rfl,hv,hb⟩;obtain⟨vn,va,vl,vc,vx,rfl,hv'⟩:=id hv;have HV:=xgw hv';clear hv' c1 c2 c3 c4;have ks:=ks.below hb;have k7:=k7.below hb;have i7:=i7.ext (lx hb);have hk:=hk.below hb;have hBt:=nx hBt hb;have z11:=z11.below hb;obtain⟨c1,c2,c3,c4⟩:=ks.two;go_upto_region 13 with(fail)
   refine zD ?_;intro We hWe;have z9:zCM We w3.heap.size (-s0):=by rw[hWe.out];exact zCM.put ks hv
   have z11:zCM We w6.heap.size t0:=by rw[hWe.out];exact z11.far oM ks dE _ _
   have k7':=zAb hWe ((k7.far oM _ _).far oM _ _);have hx':zBq wd We:=by rw[hWe.out];exact ks.lext2 dE _ _
   have i7:=i7.ext hx';have hk:zNv w We a b:=hk.old (fun k hk0=>by rw[hWe.out];exact(qR _ ⟨_,1,none⟩ _ k (by show k≠w3.heap.size;omega)).trans (qR _ ⟨_,0,none⟩ _ k (by show k≠w3.heap.size;omega))) hx';have k7:=k7';have hBt:Below w.heap.size w We:=by rw[hWe.out];exact yJ (yJ hBt oM 0 _) oM 1 _
   clear c1 c2 c3 c4 hWe hb ks k7' hx' hc is hv;have ps0:(-s0).natAbs<=max 1 b.natAbs:=by rw[zT];exact ps0
   obtain⟨bn',ba',bl',bc',kb,ib⟩:=hk.b;obtain⟨c1,c2,c3,c4⟩:=kb.two;go_wp2_with fail
   refine(zAa _ _ We ib.weak).mono ?_;rintro e wf ⟨rfl,hb⟩;have k7:=k7.below hb;have i7:=i7.ext (lx hb);have hk:=hk.below hb;have hBt:=nx hBt hb;have z9:=z9.below hb;have z11:=z11.below hb;clear c1 c2 c3 c4 hb kb ib;by_cases hb0:b<0
   ·have hc:zAp b 0=-1:=by unfold zAp;rw[if_pos hb0]
    have hsum:(-s0)*a+-t0*b=((Int.gcd a b:Nat):Int):=by
     rw[<-hsum];have:(b.natAbs:Int)=-b:=by omega
     rw[this,zC6 t0 b]
    rw[hc];obtain⟨tn,ta,tl,tc,kt,it⟩:=z11;obtain⟨c1,c2,c3,c4⟩:=kt.two;go_wp2_with fail
    refine(zBS _ t0 wf it.weak SR.out).mono ?_;rintro e wg ⟨v,rfl,hv,hb⟩;obtain⟨un,ua,ul,uc,ux,rfl,hv'⟩:=id hv;have HU:=xgw hv';clear hv' c1 c2 c3 c4;have kt:=kt.below hb;have k7:=k7.below hb;have i7:=i7.ext (lx hb);have hk:=hk.below hb;have hBt:=nx hBt hb;have z9:=z9.below hb;obtain⟨c1,c2,c3,c4⟩:=kt.two;go_upto_region 15 with(fail)
    refine zD ?_;intro Wh hWh;have z11:zCM Wh w6.heap.size (-t0):=by rw[hWh.out];exact zCM.put kt hv
    have z9:zCM Wh w3.heap.size (-s0):=by rw[hWh.out];exact z9.far oM kt dE _ _
    have k7':=zAb hWh ((k7.far oM _ _).far oM _ _);have hx':zBq wg Wh:=by rw[hWh.out];exact kt.lext2 dE _ _
    have i7:=i7.ext hx';have hk:zNv w Wh a b:=hk.old (fun k hk0=>by rw[hWh.out];exact(qR _ ⟨_,1,none⟩ _ k (by show k≠w6.heap.size;omega)).trans (qR _ ⟨_,0,none⟩ _ k (by show k≠w6.heap.size;omega))) hx';have k7:=k7';have hBt:Below w.heap.size w Wh:=by rw[hWh.out];exact yJ (yJ hBt oM 0 _) oM 1 _
    have rt0:(-t0).natAbs<=max 1 a.natAbs:=by rw[zT];exact rt0
    clear c1 c2 c3 c4 hWh hb kt k7' hx' hc it hv;obtain⟨sn,sa,sl,sc,ks,is⟩:=z9;obtain⟨tn,ta,tl,tc,kt,it⟩:=z11;obtain⟨c1,c2,c3,c4⟩:=k7.two;obtain⟨d1,d2,d3,d4⟩:=ks.two;obtain⟨f1,f2,f3,f4⟩:=kt.two;have lkt:=kt.lt;have kr1:=hk.r1;have kr2:=hk.r2;have kr3:=hk.r3;refine zJC [pcD 0 [] (fun _ v=>v= .agg #[.bool xn,.slice xa xl xc]),pcD 1 [] (fun _ v=>v= .agg #[.bool sn,.slice sa sl sc]),pcD 2 [] (fun _ v=>v= .agg #[.bool tn,.slice ta tl tc]),pbE 3 (w.heap.size+1+1) 43 2,pbE 4 (w.heap.size+1+1+1) 43 2,pbE 5 (w.heap.size+1+1+1+1) 43 2] ?_;refine sRg (fun wS hI Gk hG=>?_) (fun _ hv=>?_)
    ·have cc0:=hI.cell c1
     have cc1:=hI.cell c2;go_simp;exact⟨hG _ _ rfl,zA _ _⟩
    obtain⟨_,-,rfl⟩:=hv;refine sRg (fun wS hI Gk hG=>?_) (fun _ hv=>?_)
    ·have cc0:=hI.cell d1
     have cc1:=hI.cell d2;go_simp;exact⟨hG _ _ rfl,zA _ _⟩
    obtain⟨_,-,rfl⟩:=hv;refine sRg (fun wS hI Gk hG=>?_) (fun _ hv=>?_)
    ·have cc0:=hI.cell f1
     have cc1:=hI.cell f2;go_simp;exact⟨hG _ _ rfl,zA _ _⟩
    obtain⟨_,-,rfl⟩:=hv;refine sRx (.agg #[.bool xn,.slice xa xl xc]) ?_;refine sRx (.agg #[.bool sn,.slice sa sl sc]) ?_;refine sRx (.agg #[.bool tn,.slice ta tl tc]) ?_;refine sRb ?_;simp only[FA,FC,FN,ptr,List.nil_append,List.cons_append,Act.put,xgh,xgi,xgj];intro Wz hRWz _ _ _ kz3 kz4 kz5;obtain⟨exz3,eyz3,ebz3,eiz3⟩:∃xq yq,Blk Wz (w.heap.size+1+1) 43 #[xq,yq]/\jT Wz (.agg #[xq,yq]) ((x:Int)):=⟨_,_,kz3 _ rfl,jT.ext i7 hRWz.lext⟩;obtain⟨exz4,eyz4,ebz4,eiz4⟩:∃xq yq,Blk Wz (w.heap.size+1+1+1) 43 #[xq,yq]/\jT Wz (.agg #[xq,yq]) ((-s0)):=⟨_,_,kz4 _ rfl,jT.ext is hRWz.lext⟩;obtain⟨exz5,eyz5,ebz5,eiz5⟩:∃xq yq,Blk Wz (w.heap.size+1+1+1+1) 43 #[xq,yq]/\jT Wz (.agg #[xq,yq]) ((-t0)):=⟨_,_,kz5 _ rfl,jT.ext it hRWz.lext⟩;clear kz3 kz4 kz5;have hlWz:=hRWz.lext;have hbWz:=hRWz.bel (w.heap.size);have holdWz:∀k,k<Wh.heap.size->(∀s∈ [((w.heap.size+1+1:Nat),0),((w.heap.size+1+1+1:Nat),0),((w.heap.size+1+1+1+1:Nat),0)],s.1≠k)->Wz.heap[k]?=Wh.heap[k]?:=fun k hk hn=>hRWz.old k oM (by simp only[xgm]at hn;repeat' (first|exact trivial|omega|refine⟨?_,?_⟩))
    go_wp2_with fail
    refine bodyPost_ret (zEQ rfl _ rfl rfl rfl ebz3 ebz4 ebz5 rfl rfl rfl) rfl ⟨_,_,_,(-s0),(-t0),rfl,HG.out ▸ eiz3,eiz4,eiz5,hsum,ps0,rt0,hBt.trans hbWz⟩
   have hc:¬ zAp b 0<0:=by unfold zAp;rw[if_neg hb0];split<;>omega
   obtain⟨k,hkk⟩:∃k,zAp b 0=k:=⟨_,rfl⟩;rw[hkk]at hc ⊢
   have hsum:(-s0)*a+t0*b=((Int.gcd a b:Nat):Int):=by
    rw[<-hsum];have:(b.natAbs:Int)=b:=by omega
    rw[this]
   clear hkk;go_upto_region 15 with(fail)
   obtain⟨sn,sa,sl,sc,ks,is⟩:=z9;obtain⟨tn,ta,tl,tc,kt,it⟩:=z11;obtain⟨c1,c2,c3,c4⟩:=k7.two;obtain⟨d1,d2,d3,d4⟩:=ks.two;obtain⟨f1,f2,f3,f4⟩:=kt.two;have lkt:=kt.lt;have kr1:=hk.r1;have kr2:=hk.r2;have kr3:=hk.r3;refine zJC [pcD 0 [] (fun _ v=>v= .agg #[.bool xn,.slice xa xl xc]),pcD 1 [] (fun _ v=>v= .agg #[.bool sn,.slice sa sl sc]),pcD 2 [] (fun _ v=>v= .agg #[.bool tn,.slice ta tl tc]),pbE 3 (w.heap.size+1+1) 43 2,pbE 4 (w.heap.size+1+1+1) 43 2,pbE 5 (w.heap.size+1+1+1+1) 43 2] ?_;refine sRg (fun wS hI Gk hG=>?_) (fun _ hv=>?_)
   ·have cc0:=hI.cell c1
    have cc1:=hI.cell c2;go_simp;exact⟨hG _ _ rfl,zA _ _⟩
   obtain⟨_,-,rfl⟩:=hv;refine sRg (fun wS hI Gk hG=>?_) (fun _ hv=>?_)
   ·have cc0:=hI.cell d1
    have cc1:=hI.cell d2;go_simp;exact⟨hG _ _ rfl,zA _ _⟩
   obtain⟨_,-,rfl⟩:=hv;refine sRg (fun wS hI Gk hG=>?_) (fun _ hv=>?_)
   ·have cc0:=hI.cell f1
    have cc1:=hI.cell f2;go_simp;exact⟨hG _ _ rfl,zA _ _⟩
   obtain⟨_,-,rfl⟩:=hv;refine sRx (.agg #[.bool xn,.slice xa xl xc]) ?_;refine sRx (.agg #[.bool sn,.slice sa sl sc]) ?_;refine sRx (.agg #[.bool tn,.slice ta tl tc]) ?_;refine sRb ?_;simp only[FA,FC,FN,ptr,List.nil_append,List.cons_append,Act.put,xgh,xgi,xgj];intro Wz hRWz _ _ _ kz3 kz4 kz5;obtain⟨exz3,eyz3,ebz3,eiz3⟩:∃xq yq,Blk Wz (w.heap.size+1+1) 43 #[xq,yq]/\jT Wz (.agg #[xq,yq]) ((x:Int)):=⟨_,_,kz3 _ rfl,jT.ext i7 hRWz.lext⟩;obtain⟨exz4,eyz4,ebz4,eiz4⟩:∃xq yq,Blk Wz (w.heap.size+1+1+1) 43 #[xq,yq]/\jT Wz (.agg #[xq,yq]) ((-s0)):=⟨_,_,kz4 _ rfl,jT.ext is hRWz.lext⟩;obtain⟨exz5,eyz5,ebz5,eiz5⟩:∃xq yq,Blk Wz (w.heap.size+1+1+1+1) 43 #[xq,yq]/\jT Wz (.agg #[xq,yq]) (t0):=⟨_,_,kz5 _ rfl,jT.ext it hRWz.lext⟩;clear kz3 kz4 kz5;have hlWz:=hRWz.lext;have hbWz:=hRWz.bel (w.heap.size);have holdWz:∀k,k<wf.heap.size->(∀s∈ [((w.heap.size+1+1:Nat),0),((w.heap.size+1+1+1:Nat),0),((w.heap.size+1+1+1+1:Nat),0)],s.1≠k)->Wz.heap[k]?=wf.heap[k]?:=fun k hk hn=>hRWz.old k oM (by simp only[xgm]at hn;repeat' (first|exact trivial|omega|refine⟨?_,?_⟩))
   go_wp2_with fail
   refine bodyPost_ret (zEQ rfl _ rfl rfl rfl ebz3 ebz4 ebz5 rfl rfl rfl) rfl ⟨_,_,_,(-s0),t0,rfl,HG.out ▸ eiz3,eiz4,eiz5,hsum,ps0,rt0,hBt.trans hbWz⟩
  have hc:¬ zAp a 0<0:=by unfold zAp;rw[if_neg ha0];split<;>omega
  obtain⟨k,hkk⟩:∃k,zAp a 0=k:=⟨_,rfl⟩;rw[hkk]at hc ⊢
  have hsum:s0*a+t0*(b.natAbs:Int)=((Int.gcd a b:Nat):Int):=by
   rw[<-hsum];have:(a.natAbs:Int)=a:=by omega
   rw[this]
  clear hkk;obtain⟨bn',ba',bl',bc',kb,ib⟩:=hk.b;obtain⟨c1,c2,c3,c4⟩:=kb.two;go_wp2_with fail
  refine(zAa _ _ wc ib.weak).mono ?_;rintro e wf ⟨rfl,hb⟩;have k7:=k7.below hb;have i7:=i7.ext (lx hb);have hk:=hk.below hb;have hBt:=nx hBt hb;have z9:=z9.below hb;have z11:=z11.below hb;clear c1 c2 c3 c4 hb kb ib;by_cases hb0:b<0
  ·have hc:zAp b 0=-1:=by unfold zAp;rw[if_pos hb0]
   have hsum:s0*a+-t0*b=((Int.gcd a b:Nat):Int):=by
    rw[<-hsum];have:(b.natAbs:Int)=-b:=by omega
    rw[this,zC6 t0 b]
   rw[hc];obtain⟨tn,ta,tl,tc,kt,it⟩:=z11;obtain⟨c1,c2,c3,c4⟩:=kt.two;go_wp2_with fail
   refine(zBS _ t0 wf it.weak SR.out).mono ?_;rintro e wg ⟨v,rfl,hv,hb⟩;obtain⟨un,ua,ul,uc,ux,rfl,hv'⟩:=id hv;have HU:=xgw hv';clear hv' c1 c2 c3 c4;have kt:=kt.below hb;have k7:=k7.below hb;have i7:=i7.ext (lx hb);have hk:=hk.below hb;have hBt:=nx hBt hb;have z9:=z9.below hb;obtain⟨c1,c2,c3,c4⟩:=kt.two;go_upto_region 15 with(fail)
   refine zD ?_;intro Wh hWh;have z11:zCM Wh w6.heap.size (-t0):=by rw[hWh.out];exact zCM.put kt hv
   have z9:zCM Wh w3.heap.size s0:=by rw[hWh.out];exact z9.far oM kt dE _ _
   have k7':=zAb hWh ((k7.far oM _ _).far oM _ _);have hx':zBq wg Wh:=by rw[hWh.out];exact kt.lext2 dE _ _
   have i7:=i7.ext hx';have hk:zNv w Wh a b:=hk.old (fun k hk0=>by rw[hWh.out];exact(qR _ ⟨_,1,none⟩ _ k (by show k≠w6.heap.size;omega)).trans (qR _ ⟨_,0,none⟩ _ k (by show k≠w6.heap.size;omega))) hx';have k7:=k7';have hBt:Below w.heap.size w Wh:=by rw[hWh.out];exact yJ (yJ hBt oM 0 _) oM 1 _
   have rt0:(-t0).natAbs<=max 1 a.natAbs:=by rw[zT];exact rt0
   clear c1 c2 c3 c4 hWh hb kt k7' hx' hc it hv;obtain⟨sn,sa,sl,sc,ks,is⟩:=z9;obtain⟨tn,ta,tl,tc,kt,it⟩:=z11;obtain⟨c1,c2,c3,c4⟩:=k7.two;obtain⟨d1,d2,d3,d4⟩:=ks.two;obtain⟨f1,f2,f3,f4⟩:=kt.two;have lkt:=kt.lt;have kr1:=hk.r1;have kr2:=hk.r2;have kr3:=hk.r3;refine zJC [pcD 0 [] (fun _ v=>v= .agg #[.bool xn,.slice xa xl xc]),pcD 1 [] (fun _ v=>v= .agg #[.bool sn,.slice sa sl sc]),pcD 2 [] (fun _ v=>v= .agg #[.bool tn,.slice ta tl tc]),pbE 3 (w.heap.size+1+1) 43 2,pbE 4 (w.heap.size+1+1+1) 43 2,pbE 5 (w.heap.size+1+1+1+1) 43 2] ?_;refine sRg (fun wS hI Gk hG=>?_) (fun _ hv=>?_)
   ·have cc0:=hI.cell c1
    have cc1:=hI.cell c2;go_simp;exact⟨hG _ _ rfl,zA _ _⟩
   obtain⟨_,-,rfl⟩:=hv;refine sRg (fun wS hI Gk hG=>?_) (fun _ hv=>?_)
   ·have cc0:=hI.cell d1
    have cc1:=hI.cell d2;go_simp;exact⟨hG _ _ rfl,zA _ _⟩
   obtain⟨_,-,rfl⟩:=hv;refine sRg (fun wS hI Gk hG=>?_) (fun _ hv=>?_)
   ·have cc0:=hI.cell f1
    have cc1:=hI.cell f2;go_simp;exact⟨hG _ _ rfl,zA _ _⟩
   obtain⟨_,-,rfl⟩:=hv;refine sRx (.agg #[.bool xn,.slice xa xl xc]) ?_;refine sRx (.agg #[.bool sn,.slice sa sl sc]) ?_;refine sRx (.agg #[.bool tn,.slice ta tl tc]) ?_;refine sRb ?_;simp only[FA,FC,FN,ptr,List.nil_append,List.cons_append,Act.put,xgh,xgi,xgj];intro Wz hRWz _ _ _ kz3 kz4 kz5;obtain⟨exz3,eyz3,ebz3,eiz3⟩:∃xq yq,Blk Wz (w.heap.size+1+1) 43 #[xq,yq]/\jT Wz (.agg #[xq,yq]) ((x:Int)):=⟨_,_,kz3 _ rfl,jT.ext i7 hRWz.lext⟩;obtain⟨exz4,eyz4,ebz4,eiz4⟩:∃xq yq,Blk Wz (w.heap.size+1+1+1) 43 #[xq,yq]/\jT Wz (.agg #[xq,yq]) (s0):=⟨_,_,kz4 _ rfl,jT.ext is hRWz.lext⟩;obtain⟨exz5,eyz5,ebz5,eiz5⟩:∃xq yq,Blk Wz (w.heap.size+1+1+1+1) 43 #[xq,yq]/\jT Wz (.agg #[xq,yq]) ((-t0)):=⟨_,_,kz5 _ rfl,jT.ext it hRWz.lext⟩;clear kz3 kz4 kz5;have hlWz:=hRWz.lext;have hbWz:=hRWz.bel (w.heap.size);have holdWz:∀k,k<Wh.heap.size->(∀s∈ [((w.heap.size+1+1:Nat),0),((w.heap.size+1+1+1:Nat),0),((w.heap.size+1+1+1+1:Nat),0)],s.1≠k)->Wz.heap[k]?=Wh.heap[k]?:=fun k hk hn=>hRWz.old k oM (by simp only[xgm]at hn;repeat' (first|exact trivial|omega|refine⟨?_,?_⟩))
   go_wp2_with fail
   refine bodyPost_ret (zEQ rfl _ rfl rfl rfl ebz3 ebz4 ebz5 rfl rfl rfl) rfl ⟨_,_,_,s0,(-t0),rfl,HG.out ▸ eiz3,eiz4,eiz5,hsum,ps0,rt0,hBt.trans hbWz⟩
  have hc:¬ zAp b 0<0:=by unfold zAp;rw[if_neg hb0];split<;>omega
  obtain⟨k,hkk⟩:∃k,zAp b 0=k:=⟨_,rfl⟩;rw[hkk]at hc ⊢
  have hsum:s0*a+t0*b=((Int.gcd a b:Nat):Int):=by
   rw[<-hsum];have:(b.natAbs:Int)=b:=by omega
   rw[this]
  clear hkk;go_upto_region 15 with(fail)
  obtain⟨sn,sa,sl,sc,ks,is⟩:=z9;obtain⟨tn,ta,tl,tc,kt,it⟩:=z11;obtain⟨c1,c2,c3,c4⟩:=k7.two;obtain⟨d1,d2,d3,d4⟩:=ks.two;obtain⟨f1,f2,f3,f4⟩:=kt.two;have lkt:=kt.lt;have kr1:=hk.r1;have kr2:=hk.r2;have kr3:=hk.r3;refine zJC [pcD 0 [] (fun _ v=>v= .agg #[.bool xn,.slice xa xl xc]),pcD 1 [] (fun _ v=>v= .agg #[.bool sn,.slice sa sl sc]),pcD 2 [] (fun _ v=>v= .agg #[.bool tn,.slice ta tl tc]),pbE 3 (w.heap.size+1+1) 43 2,pbE 4 (w.heap.size+1+1+1) 43 2,pbE 5 (w.heap.size+1+1+1+1) 43 2] ?_;refine sRg (fun wS hI Gk hG=>?_) (fun _ hv=>?_)
  ·have cc0:=hI.cell c1
   have cc1:=hI.cell c2;go_simp;exact⟨hG _ _ rfl,zA _ _⟩
  obtain⟨_,-,rfl⟩:=hv;refine sRg (fun wS hI Gk hG=>?_) (fun _ hv=>?_)
  ·have cc0:=hI.cell d1
   have cc1:=hI.cell d2;go_simp;exact⟨hG _ _ rfl,zA _ _⟩
  obtain⟨_,-,rfl⟩:=hv;refine sRg (fun wS hI Gk hG=>?_) (fun _ hv=>?_)
  ·have cc0:=hI.cell f1
   have cc1:=hI.cell f2;go_simp;exact⟨hG _ _ rfl,zA _ _⟩
  obtain⟨_,-,rfl⟩:=hv;refine sRx (.agg #[.bool xn,.slice xa xl xc]) ?_;refine sRx (.agg #[.bool sn,.slice sa sl sc]) ?_;refine sRx (.agg #[.bool tn,.slice ta tl tc]) ?_;refine sRb ?_;simp only[FA,FC,FN,ptr,List.nil_append,List.cons_append,Act.put,xgh,xgi,xgj];intro Wz hRWz _ _ _ kz3 kz4 kz5;obtain⟨exz3,eyz3,ebz3,eiz3⟩:∃xq yq,Blk Wz (w.heap.size+1+1) 43 #[xq,yq]/\jT Wz (.agg #[xq,yq]) ((x:Int)):=⟨_,_,kz3 _ rfl,jT.ext i7 hRWz.lext⟩;obtain⟨exz4,eyz4,ebz4,eiz4⟩:∃xq yq,Blk Wz (w.heap.size+1+1+1) 43 #[xq,yq]/\jT Wz (.agg #[xq,yq]) (s0):=⟨_,_,kz4 _ rfl,jT.ext is hRWz.lext⟩;obtain⟨exz5,eyz5,ebz5,eiz5⟩:∃xq yq,Blk Wz (w.heap.size+1+1+1+1) 43 #[xq,yq]/\jT Wz (.agg #[xq,yq]) (t0):=⟨_,_,kz5 _ rfl,jT.ext it hRWz.lext⟩;clear kz3 kz4 kz5;have hlWz:=hRWz.lext;have hbWz:=hRWz.bel (w.heap.size);have holdWz:∀k,k<wf.heap.size->(∀s∈ [((w.heap.size+1+1:Nat),0),((w.heap.size+1+1+1:Nat),0),((w.heap.size+1+1+1+1:Nat),0)],s.1≠k)->Wz.heap[k]?=wf.heap[k]?:=fun k hk hn=>hRWz.old k oM (by simp only[xgm]at hn;repeat' (first|exact trivial|omega|refine⟨?_,?_⟩))
  go_wp2_with fail
  refine bodyPost_ret (zEQ rfl _ rfl rfl rfl ebz3 ebz4 ebz5 rfl rfl rfl) rfl ⟨_,_,_,s0,t0,rfl,HG.out ▸ eiz3,eiz4,eiz5,hsum,ps0,rt0,hBt.trans hbWz⟩
 have hy0:0<y:=Nat.pos_of_ne_zero h0;have hc:zAp (y:Int) 0=1:=by unfold zAp;rw[if_neg oM,if_pos oM]
 rw[hc];have hy0':(y:Int)≠0:=by omega
 have SX:Sm (x:Int):=by
  have hxb:=HN.out.xb;rcases Nat.le_total a.natAbs b.natAbs with hab|hab
  exact HS2.out.sm.mono (by rw[zAh];omega);exact HS1.out.sm.mono (by rw[zAh];omega)
 have SY:Sm (y:Int):=HS2.out.sm.mono (by have:=HN.out.yb;rw[zAh];exact this);have SX':=xgv SX;have SY':=xgv SY;clear SX SY;go_wp2_with fail
 refine(zDj _ _ (x:Int) (y:Int) wa i7.weak i8.weak SX'.out SY'.out hy0').mono ?_;rintro e w4 ⟨q0,r0,rfl,hq,hr,hb4⟩;obtain⟨qn,qa,ql,qc,qx,rfl,hq'⟩:=id hq;obtain⟨rn,ra,rl,rc,rx,rfl,hr'⟩:=id hr;have HQ':=xgw hq';have HR':=xgw hr';clear hq' hr' hc hy0';go_upto_region 6 with(fail)
 refine zD ?_;intro W5 hW5;obtain⟨hB5,T13,T14,hs5⟩:=zAd hW5;have k7:=(k7.below hb4).below hB5;have k8:=(k8.below hb4).below hB5;have i8:=(i8.ext (lx hb4)).ext (lx hB5);have hk:=(hk.below hb4).below hB5;have z9:=(z9.below hb4).below hB5;have z10:=(z10.below hb4).below hB5;have z11:=(z11.below hb4).below hB5;have z12:=(z12.below hb4).below hB5;have hBt:=nx (nx hBt hb4) hB5;have hq:=hq.ext (lx hB5);have hr:=hr.ext (lx hB5);have hs4:=hb4.size;have l13:w6.heap.size+1<w4.heap.size:=by omega
 clear c1 c2 c3 c4 d1 d2 d3 d4 hW5 hb4 hB5 hsa hs4 lt12;obtain⟨d1,d2,d3,d4⟩:=k8.two;obtain⟨f1,f2,f3,f4⟩:=T14.two;refine zJC [pcD 1 [] (fun _ v=>v= .agg #[.bool rn,.slice ra rl rc]),pbE 2 (ca4) 43 2,pbE 3 (ca5) 43 2] ?_;refine sRd ?_;refine sRg (fun wS hI Gk hG=>?_) (fun _ hv=>?_)
 ·have cc0:=hI.cell f1
  have cc1:=hI.cell f2;go_simp;exact⟨hG _ _ rfl,zA _ _⟩
 obtain⟨_,-,rfl⟩:=hv;refine sRx (.agg #[.bool yn,.slice ya yl yc]) ?_;refine sRx (.agg #[.bool rn,.slice ra rl rc]) ?_;refine sRb ?_;simp only[FA,FC,FN,ptr,List.nil_append,List.cons_append,Act.put,xgh,xgi,xgj];intro W8 hRW8 _ ka2 ka3;obtain⟨exa2,eya2,eba2,eia2⟩:∃xq yq,Blk W8 (ca4) 43 #[xq,yq]/\jT W8 (.agg #[xq,yq]) ((y:Int)):=⟨_,_,ka2 _ rfl,jT.ext i8 hRW8.lext⟩;obtain⟨exa3,eya3,eba3,eia3⟩:∃xq yq,Blk W8 (ca5) 43 #[xq,yq]/\jT W8 (.agg #[xq,yq]) (((x:Int)%(y:Int))):=⟨_,_,ka3 _ rfl,jT.ext hr hRW8.lext⟩;clear ka2 ka3;have hlW8:=hRW8.lext;have hbW8:=hRW8.bel (w.heap.size);have holdW8:∀k,k<W5.heap.size->(∀s∈ [((ca4:Nat),0),((ca5:Nat),0)],s.1≠k)->W8.heap[k]?=W5.heap[k]?:=fun k hk hn=>hRW8.old k oM (by simp only[xgm]at hn;repeat' (first|exact trivial|omega|refine⟨?_,?_⟩))
 have hk:zNv w W8 a b:=hk.old (fun k hk0=>holdW8 _ oM aU) hlW8;have z9:=z9.old (holdW8 _ oM aU) hlW8;have z10:=z10.old (holdW8 _ oM aU) hlW8;have z11:=z11.old (holdW8 _ oM aU) hlW8;have z12:=z12.old (holdW8 _ oM aU) hlW8;have z13:=(zCM.mk T13 hq).old (holdW8 _ oM aU) hlW8;have z7:=zCM.mk eba2 eia2;have z8:=zCM.mk eba3 eia3;have hBt:=hBt.trans hbW8;have eq1:(x:Int)/(y:Int)=((x/y:Nat):Int):=rfl;rw[eq1]at z13;have hst:=HN.out.step hy0;have SP:zAN (Sm (sgn σ p)):=⟨HS2.out.sm1 (by have:=HN.out.pb;rw[zBK];omega)⟩;have SP':zAN (Sm (sgn (!σ) p')):=⟨HS2.out.sm1 (by have:=HN.out.pb';rw[zBK];omega)⟩;have SR:zAN (Sm (sgn (!σ) r)):=⟨HS1.out.sm1 (by have:=HN.out.rb;rw[zBK];omega)⟩;have SR':zAN (Sm (sgn σ r')):=⟨HS1.out.sm1 (by have:=HN.out.rb';rw[zBK];omega)⟩;have SQ:zAN (Sm ((x/y:Nat):Int)):=⟨SX'.out.mono (by simp only[Int.natAbs_natCast];exact zDR _ _)⟩;have SQP:zAN (Sm (((x/y:Nat):Int)*sgn (!σ) p')):=⟨HS2.out.sm1 (by have:=hst.pb';rw[qZ,zBK,zAh];omega)⟩;have SQR:zAN (Sm (((x/y:Nat):Int)*sgn σ r')):=⟨HS1.out.sm1 (by have:=hst.rb';rw[qZ,zBK,zAh];omega)⟩;have HST:=xgw hst;clear hst;go_upto_region 7 with(fail)
 obtain⟨sn,sa,sl,sc,ks,is⟩:=z9;obtain⟨nn,na,nl,nc,kn,jn⟩:=z10;obtain⟨en,ea,el,ec,ke,je⟩:=z13;obtain⟨c1,c2,c3,c4⟩:=ks.two;obtain⟨d1,d2,d3,d4⟩:=kn.two;obtain⟨f1,f2,f3,f4⟩:=ke.two;have lke:=ke.lt;refine zJC [pcD 2 [] (fun _ v=>v= .agg #[.bool en,.slice ea el ec]),pcI 4 (((x/y:Nat):Int)*(sgn (!σ) p')),pcD 5 [4] (fun w v=>jT w v ((sgn σ p)-((x/y:Nat):Int)*(sgn (!σ) p'))),pbE 6 (w3.heap.size) 43 2,pbE 7 (w3.heap.size+1) 43 2] ?_;refine sRd ?_;refine sRg (fun wS hI Gk hG=>?_) (fun _ hv=>?_)
 ·have cc0:=hI.cell f1
  have cc1:=hI.cell f2;go_simp;exact⟨hG _ _ rfl,zA _ _⟩
 obtain⟨_,-,rfl⟩:=hv;refine sRd ?_;refine sRg (fun wS hI Gk hG=>by go_simp;exact ck hG (zD4 _ _ ((x/y:Nat):Int) (sgn (!σ) p') _ (je.ext hI.lext).weak (jn.ext hI.lext).weak SQ.out SP'.out)) (fun vb4 _=>?_);refine sRg (fun wS hI hb4 Gk hG=>?_) (fun vb5 hv=>?_)
 ·go_simp
  exact ck hG (zNn _ _ (sgn σ p) (((x/y:Nat):Int)*(sgn (!σ) p')) _ (is.ext hI.lext).weak hb4.weak SP.out SQP.out)
 obtain⟨xb7,yb7,rfl,qb7⟩:=zLF hv;clear hv;refine sRx (.agg #[.bool nn,.slice na nl nc]) ?_;refine sRx (.agg #[xb7,yb7]) ?_ qb7;refine sRb ?_;simp only[FA,FC,FN,ptr,List.nil_append,List.cons_append,Act.put,xgh,xgi,xgj];intro W9 hRW9 _ hb4 hb5 kb6 kb7;obtain⟨exb6,eyb6,ebb6,eib6⟩:∃xq yq,Blk W9 (w3.heap.size) 43 #[xq,yq]/\jT W9 (.agg #[xq,yq]) ((sgn (!σ) p')):=⟨_,_,kb6 _ rfl,jT.ext jn hRW9.lext⟩;obtain⟨exb7,eyb7,ebb7,eib7⟩:∃xq yq,Blk W9 (w3.heap.size+1) 43 #[xq,yq]/\jT W9 (.agg #[xq,yq]) ((sgn σ p)-((x/y:Nat):Int)*(sgn (!σ) p')):=⟨_,_,kb7 _ rfl,hb5⟩;clear kb6 kb7;have hlW9:=hRW9.lext;have hbW9:=hRW9.bel (w.heap.size);have holdW9:∀k,k<W8.heap.size->(∀s∈ [((w3.heap.size:Nat),0),((w3.heap.size+1:Nat),0)],s.1≠k)->W9.heap[k]?=W8.heap[k]?:=fun k hk hn=>hRW9.old k oM (by simp only[xgm]at hn;repeat' (first|exact trivial|omega|refine⟨?_,?_⟩))
 rw[(zF6 σ p (x/y) p')]at eib7;have z13:=zCM.mk ke je;have hk:zNv w W9 a b:=hk.old (fun k hk0=>holdW9 _ oM aU) hlW9;have z7:=z7.old (holdW9 _ oM aU) hlW9;have z8:=z8.old (holdW9 _ oM aU) hlW9;have z13:=z13.old (holdW9 _ oM aU) hlW9;have z11:=z11.old (holdW9 _ oM aU) hlW9;have z12:=z12.old (holdW9 _ oM aU) hlW9;have z9:=zCM.mk ebb6 eib6;have z10:=zCM.mk ebb7 eib7;have hBt:=hBt.trans hbW9;clear c1 c2 c3 c4 d1 d2 d3 d4 f1 f2 f3 f4 holdW9 hlW9 hbW9;have er:sgn (!σ) r-((x/y:Nat):Int)*sgn σ r'=sgn (!σ) (r+x/y*r'):=by
  have:=zF6 (!σ) r (x/y) r';rwa[zCB]at this
 go_upto_region 8 with(fail)
 obtain⟨sn,sa,sl,sc,ks,is⟩:=z11;obtain⟨nn,na,nl,nc,kn,jn⟩:=z12;obtain⟨en,ea,el,ec,ke,je⟩:=z13;obtain⟨c1,c2,c3,c4⟩:=ks.two;obtain⟨d1,d2,d3,d4⟩:=kn.two;obtain⟨f1,f2,f3,f4⟩:=ke.two;have lke:=ke.lt;refine zJC [pcD 2 [] (fun _ v=>v= .agg #[.bool en,.slice ea el ec]),pcI 4 (((x/y:Nat):Int)*(sgn σ r')),pcD 5 [4] (fun w v=>jT w v ((sgn (!σ) r)-((x/y:Nat):Int)*(sgn σ r'))),pbE 6 (w6.heap.size) 43 2,pbE 7 (w6.heap.size+1) 43 2] ?_;refine sRd ?_;refine sRg (fun wS hI Gk hG=>?_) (fun _ hv=>?_)
 ·have cc0:=hI.cell f1
  have cc1:=hI.cell f2;go_simp;exact⟨hG _ _ rfl,zA _ _⟩
 obtain⟨_,-,rfl⟩:=hv;refine sRd ?_;refine sRg (fun wS hI Gk hG=>by go_simp;exact ck hG (zD4 _ _ ((x/y:Nat):Int) (sgn σ r') _ (je.ext hI.lext).weak (jn.ext hI.lext).weak SQ.out SR'.out)) (fun vc4 _=>?_);refine sRg (fun wS hI hc4 Gk hG=>?_) (fun vc5 hv=>?_)
 ·go_simp
  exact ck hG (zNn _ _ (sgn (!σ) r) (((x/y:Nat):Int)*(sgn σ r')) _ (is.ext hI.lext).weak hc4.weak SR.out SQR.out)
 obtain⟨xc7,yc7,rfl,qc7⟩:=zLF hv;clear hv;refine sRx (.agg #[.bool nn,.slice na nl nc]) ?_;refine sRx (.agg #[xc7,yc7]) ?_ qc7;refine sRb ?_;simp only[FA,FC,FN,ptr,List.nil_append,List.cons_append,Act.put,xgh,xgi,xgj];intro WA hRWA _ hc4 hc5 kc6 kc7;obtain⟨exc6,eyc6,ebc6,eic6⟩:∃xq yq,Blk WA (w6.heap.size) 43 #[xq,yq]/\jT WA (.agg #[xq,yq]) ((sgn σ r')):=⟨_,_,kc6 _ rfl,jT.ext jn hRWA.lext⟩;obtain⟨exc7,eyc7,ebc7,eic7⟩:∃xq yq,Blk WA (w6.heap.size+1) 43 #[xq,yq]/\jT WA (.agg #[xq,yq]) ((sgn (!σ) r)-((x/y:Nat):Int)*(sgn σ r')):=⟨_,_,kc7 _ rfl,hc5⟩;clear kc6 kc7;have hlWA:=hRWA.lext;have hbWA:=hRWA.bel (w.heap.size);have holdWA:∀k,k<W9.heap.size->(∀s∈ [((w6.heap.size:Nat),0),((w6.heap.size+1:Nat),0)],s.1≠k)->WA.heap[k]?=W9.heap[k]?:=fun k hk hn=>hRWA.old k oM (by simp only[xgm]at hn;repeat' (first|exact trivial|omega|refine⟨?_,?_⟩))
 rw[er]at eic7;have z13:=zCM.mk ke je;have hk:zNv w WA a b:=hk.old (fun k hk0=>holdWA _ oM aU) hlWA;have z7:=z7.old (holdWA _ oM aU) hlWA;have z8:=z8.old (holdWA _ oM aU) hlWA;have z13:=z13.old (holdWA _ oM aU) hlWA;have z9:=z9.old (holdWA _ oM aU) hlWA;have z10:=z10.old (holdWA _ oM aU) hlWA;have z11:=zCM.mk ebc6 eic6;have z12:=zCM.mk ebc7 eic7;have hBt:=hBt.trans hbWA;clear c1 c2 c3 c4 d1 d2 d3 d4 f1 f2 f3 f4 holdWA hlWA hbWA;go_wp2;go_roundw
 case rel=>
  exact⟨y,x%y,!σ,p',_,r',_,HST.out,hBt,hk,z7,z8,z9,by rw[zCB];exact z10,by rw[zCB];exact z11,z12⟩
 obtain⟨zn,za,zl,zc,k8,i8⟩:=z8;rw[hf _ _ _ _ _ k8 i8,hfr];have h5:=zAt (x:Int) (show(y:Int)≠0 by omega);have h6:=Int.emod_lt (x:Int) (show(y:Int)≠0 by omega);omega
abbrev tI:TypeId:=43
def jQ(w:World)(b:Nat)(zs:List Int):Prop:=
 ∃cs:Array Value,w.heap[b]?=some (.cells cs tI (0,0))/\∀k z,zs[k]?=some z->∃s a l c,cs[k*2]?=some (.bool s)/\cs[k*2+1]?=some (.slice a l c)/\jT w (.agg #[.bool s,.slice a l c]) z
theorem jQ.lt(h:jQ w b zs):b<w.heap.size:=by
 obtain⟨cs,h1,-⟩:=h;exact(Array.getElem?_eq_some_iff.1 h1).1
theorem jQ.old(h:jQ w b zs)(e:w'.heap[b]?=w.heap[b]?)(x:zBq w w'):jQ w' b zs:=by
 obtain⟨cs,h1,h2⟩:=h;refine⟨cs,e.trans h1,fun k z hk=>?_⟩;obtain⟨s,a,l,c,e1,e2,e3⟩:=h2 k z hk;exact⟨s,a,l,c,e1,e2,e3.ext x⟩
theorem jQ.below(h:jQ w b zs)(hb:Below w.heap.size w w'):jQ w' b zs:=h.old (hb.block _ h.lt) (lx hb)
theorem jQ.cell(h:jQ w b zs){k:Nat}(hk:zs[k]?=some z):
  ∃s a l c,w.cell? ⟨b,k*2,none⟩=some (.bool s)/\w.cell? ⟨b,k*2+1,none⟩=some (.slice a l c)/\w.frozen? ⟨b,k*2,none⟩=false/\w.frozen? ⟨b,k*2+1,none⟩=false/\jT w (.agg #[.bool s,.slice a l c]) z:=by
 obtain⟨cs,h1,h2⟩:=h;obtain⟨s,a,l,c,e1,e2,e3⟩:=h2 k z hk;exact⟨s,a,l,c,(cell_of_row w b _ cs tI _ h1).trans e1,(cell_of_row w b _ cs tI _ h1).trans e2,frozen_of_row w b _ cs tI h1,frozen_of_row w b _ cs tI h1,e3⟩
theorem zW(w:World)(b i k:Nat)(u:Value)(h:k≠b):(w.setCell ⟨b,i,none⟩ u).heap[k]?=w.heap[k]?:=qR w ⟨b,i,none⟩ u k h
theorem yS(w:World)(b i j k:Nat)(u v:Value)(h:k≠b):((w.setCell ⟨b,i,none⟩ u).setCell ⟨b,j,none⟩ v).heap[k]?=w.heap[k]?:=
 (zW _ b j k v h).trans (zW _ b i k u h)
theorem jQ.set(h:jQ w b zs){k:Nat}(hk:k<zs.length){s:Bool}{a:Option Addr}{l c:Nat}(hv:jT w (.agg #[.bool s,.slice a l c]) z):
  jQ ((w.setCell ⟨b,k*2,none⟩ (.bool s)).setCell ⟨b,k*2+1,none⟩ (.slice a l c)) b (zs.set k z)/\zBq w ((w.setCell ⟨b,k*2,none⟩ (.bool s)).setCell ⟨b,k*2+1,none⟩ (.slice a l c)):=by
 obtain⟨cs,h1,h2⟩:=h;have hB:Blk w b tI cs:=h1;have hx:zBq w ((w.setCell ⟨b,k*2,none⟩ (.bool s)).setCell ⟨b,k*2+1,none⟩ (.slice a l c)):=(hB.lext dE _ _).trans ((hB.set_ _ _).lext dE _ _);refine⟨⟨(cs.setIfInBounds (k*2) (.bool s)).setIfInBounds (k*2+1) (.slice a l c),(hB.set_ _ _).set_ _ _,?_⟩,hx⟩;intro j y hj;by_cases e:j=k
 ·subst e
  rw[List.getElem?_set_self hk]at hj;injection hj with hj
  subst hj;obtain⟨s0,a0,l0,c0,e1,e2,-⟩:=h2 j zs[j] (xga hk);have l1:=(Array.getElem?_eq_some_iff.1 e1).1;have l2:=(Array.getElem?_eq_some_iff.1 e2).1;refine⟨s,a,l,c,?_,?_,hv.ext hx⟩;rw[xgc oM,Array.getElem?_setIfInBounds_self_of_lt l1];rw[Array.getElem?_setIfInBounds_self_of_lt (by simpa using l2)]
 rw[List.getElem?_set_ne (zP e)]at hj;obtain⟨s0,a0,l0,c0,e1,e2,e3⟩:=h2 j y hj;refine⟨s0,a0,l0,c0,?_,?_,e3.ext hx⟩;rw[xgc oM,xgc oM];exact e1;rw[xgc oM,xgc oM];exact e2
def zBm(w:World)(v:Value)(zs:List Int):Prop:=
 ∃ao n cap,v= .slice ao n cap/\zs.length=n/\n<=cap/\cap<=9223372036854775807/\(zs≠ []->∃b,ao=some ⟨b,0,none⟩/\jQ w b zs)
theorem zBm.nil(w:World):zBm w (.slice none 0 0) []:=⟨none,0,0,rfl,rfl,xgf _,by omega,fun h=>absurd rfl h⟩
theorem zBm.below{v:Value}(h:zBm w v zs)(hb:Below w.heap.size w w'):zBm w' v zs:=by
 obtain⟨ao,n,cap,h1,h2,h3,h4,h5⟩:=h;exact⟨ao,n,cap,h1,h2,h3,h4,fun hn=>(h5 hn).elim fun b h=>⟨b,h.1,h.2.below hb⟩⟩
theorem zBm.cell{n:Nat}(h:zBm w (.slice ao n cap) zs){k:Nat}(hk:k<zs.length):
  ∃b z s a l c,ao=some ⟨b,0,none⟩/\b<w.heap.size/\zs[k]?=some z/\w.cell? ⟨b,k*2,none⟩=some (.bool s)/\w.cell? ⟨b,k*2+1,none⟩=some (.slice a l c)/\jT w (.agg #[.bool s,.slice a l c]) z:=by
 obtain⟨ao',n',cap',h1,h2,h3,h4,h5⟩:=h;injection h1 with e1 e2 e3
 subst e1;obtain⟨b,e,hr⟩:=h5 (by rintro rfl;simp at hk);obtain⟨s,a,l,c,c1,c2,-,-,c5⟩:=hr.cell (xga hk);exact⟨b,_,s,a,l,c,e,hr.lt,xga hk,c1,c2,c5⟩
theorem zBm.len{n:Nat}(h:zBm w (.slice ao n cap) zs):zs.length=n/\n<=cap/\cap<=9223372036854775807:=by
 obtain⟨ao',n',cap',h1,h2,h3,h4,h5⟩:=h;injection h1 with e1 e2 e3
 omega
def zBl(w:World)(v:Value)(M:List (List Int)):Prop:=
 ∃ao n cap,v= .slice ao n cap/\M.length=n/\n<=cap/\cap<=9223372036854775807/\(M≠ []->∃(b:Nat) (cs:Array Value),ao=some ⟨b,0,none⟩/\w.heap[b]?=some (.cells cs 46 (0,0))/\∀(k:Nat) (zs:List Int),M[k]?=some zs->∃rv,cs[k]?=some rv/\zBm w rv zs)
theorem zBl.nil(w:World):zBl w (.slice none 0 0) []:=⟨none,0,0,rfl,rfl,xgf _,by omega,fun h=>absurd rfl h⟩
theorem zBl.below{v:Value}(h:zBl w v M)(hb:Below w.heap.size w w'):zBl w' v M:=by
 obtain⟨ao,n,cap,h1,h2,h3,h4,h5⟩:=h;refine⟨ao,n,cap,h1,h2,h3,h4,fun hn=>?_⟩;obtain⟨b,cs,e1,e2,e3⟩:=h5 hn;refine⟨b,cs,e1,(hb.block _ (Array.getElem?_eq_some_iff.1 e2).1).trans e2,fun k zs hk=>?_⟩;obtain⟨rv,e4,e5⟩:=e3 k zs hk;exact⟨rv,e4,e5.below hb⟩
theorem zBl.row{n:Nat}(h:zBl w (.slice ao n cap) M){k:Nat}(hk:k<M.length):
  ∃b ra rn rc zs,ao=some ⟨b,0,none⟩/\b<w.heap.size/\M[k]?=some zs/\w.cell? ⟨b,k,none⟩=some (.slice ra rn rc)/\zBm w (.slice ra rn rc) zs:=by
 obtain⟨ao',n',cap',h1,h2,h3,h4,h5⟩:=h;injection h1 with e1 e2 e3
 subst e1;obtain⟨b,cs,e,hr,hc⟩:=h5 (by rintro rfl;simp at hk);obtain⟨rv,c1,c2⟩:=hc k _ (xga hk);obtain⟨ra,rn,rc,rfl,c3⟩:=id c2;exact⟨b,ra,rn,rc,_,e,(Array.getElem?_eq_some_iff.1 hr).1,xga hk,(cell_of_row w b k cs _ _ hr).trans c1,c2⟩
theorem zBl.len{n:Nat}(h:zBl w (.slice ao n cap) M):M.length=n/\n<=cap/\cap<=9223372036854775807:=by
 obtain⟨ao',n',cap',h1,h2,h3,h4,h5⟩:=h;injection h1 with e1 e2 e3
 omega
def zAO(w:World)(v:Value)(R C:Int)(M:List (List Int)):Prop:=∃A,v= .agg #[.int .i64 R,.int .i64 C,A]/\zBl w A M
theorem zAO.below{v:Value}(h:zAO w v R C M)(hb:Below w.heap.size w w'):zAO w' v R C M:=by
 obtain⟨A,h1,h2⟩:=h;exact⟨A,h1,h2.below hb⟩
def zBc(R C:Nat)(M:List (List Int)):Prop:=M.length=R/\∀r∈M,r.length=C
theorem zMZ(v:Value)(zs:List Int)(w:World)(h:zBm w v zs):
  Calls Tryz.prog 175 #[v] w fun e w'=>e= .returned (.bool true)/\Below w.heap.size w w':=by
 obtain⟨ao,n,cap,rfl,h2,h3,h4,h5⟩:=id h;have HL:=xgw h2;clear h2 h5;go_enter Tryz.func175,Tryz.ntmps175;go_wp2;go_loopw [3] (fun i wr=>∃k:Nat,k<=n/\i= .int .i64 k/\Below w.heap.size w wr) (fun i _=>n-(intOf i).toNat)
 case atStart=>exact⟨0,by omega,rfl,zA _ _⟩
 obtain⟨k,hk,rfl,hb⟩:=hrel;by_cases hlt:k<n
 ·obtain⟨b,z,s,a,l,c,rfl,hbl,-,c1,c2,hv⟩:=(h.below hb).cell (k:=k) (by rw[HL.out];exact hlt)
  go_wp2_with fail
  refine(zNe _ _ wr hv).mono ?_;rintro e w1 ⟨rfl,hb1⟩;go_wp2;go_roundw
  case rel=>exact⟨k+1,by omega,by simp,nx hb hb1⟩
  case measure=>simp[intOf];omega
 obtain rfl:k=n:=by omega
 go_wp2;go_ret;exact⟨rfl,hb⟩
theorem zI6{α:Type}{xs ys:List α}{k:Nat}{x y:α}(h:xs.take k=ys.take k)(hx:xs[k]?=some x)(hy:ys[k]?=some y)(e:x=y):xs.take (k+1)=ys.take (k+1):=by
 rw[yY,yY,hx,hy,h,e]
theorem zGl{α:Type}{xs ys:List α}{k:Nat}{x y:α}(hx:xs[k]?=some x)(hy:ys[k]?=some y)(e:x≠y):xs≠ys:=by
 rintro rfl;rw[hx]at hy;injection hy with hy
 exact e hy
theorem zIy(v1 v2:Value)(xs ys:List Int)(w:World)(h1:zBm w v1 xs)(h2:zBm w v2 ys):
  Calls Tryz.prog 79 #[v1,v2] w fun e w'=>e= .returned (.bool (decide (xs=ys)))/\Below w.heap.size w w':=by
 obtain⟨ao,n,cap,rfl,e2,e3,e4,e5⟩:=id h1;obtain⟨bo,m,bcap,rfl,f2,f3,f4,f5⟩:=id h2;have HX:=xgw e2;have HY:=xgw f2;clear e2 e5 f2 f5;by_cases hlen:n=m
 ·subst hlen
  go_enter Tryz.func79,Tryz.ntmps79;go_wp2;go_loopw [5] (fun i wr=>∃k:Nat,k<=n/\i= .int .i64 k/\Below w.heap.size w wr/\Hid (xs.take k=ys.take k)) (fun i _=>n-(intOf i).toNat)
  case atStart=>exact⟨0,by omega,rfl,zA _ _,by rw[jL,jL];exact xgw rfl⟩
  obtain⟨k,hk,rfl,hb,hsame⟩:=hrel;by_cases hlt:k<n
  ·obtain⟨b,z,s,a,l,c,rfl,hbl,hz,c1,c2,hv⟩:=(h1.below hb).cell (k:=k) (by rw[HX.out];exact hlt)
   obtain⟨b',z',s',a',l',c',rfl,hbl',hz',d1,d2,hv'⟩:=(h2.below hb).cell (k:=k) (by rw[HY.out];exact hlt);have HZ:=xgw hz;have HZ':=xgw hz';clear hz hz';have c1':=zBh c1;have c2':=zBh c2;have d1':=zBh d1;have d2':=zBh d2;go_upto_region 6 with(fail)
   go_still_tail 8,kR;change wpList _ _ _ _ _ wr.drew;go_wp2_with fail
   refine(zJ6 _ _ z z' _ (hv.ext (lx (dr _))) (hv'.ext (lx (dr _)))).mono ?_;rintro e w1 ⟨rfl,hb1⟩;by_cases he:z=z'
   ·rw[decide_eq_true he]
    go_wp2;go_roundw
    case rel=>exact⟨k+1,by omega,by simp,nx (nx hb (dr _)) hb1,xgw (zI6 hsame.out HZ.out HZ'.out he)⟩
    case measure=>simp[intOf];omega
   rw[decide_eq_false he];go_wp2;go_ret;exact⟨by rw[decide_eq_false (zGl HZ.out HZ'.out he)];rfl,nx (nx hb (dr _)) hb1⟩
  obtain rfl:k=n:=by omega
  go_wp2;go_ret;refine⟨?_,hb⟩;have:=hsame.out;rw[<-HX.out,yU,HX.out,<-HY.out,yU]at this;rw[decide_eq_true this];rfl
 have hne:xs≠ys:=by rintro rfl;exact hlen (HX.out.symm.trans HY.out)
 have hd:=decide_eq_false hne;rw[hd];have hi:¬ (n:Int)=(m:Int):=by omega
 go_enter Tryz.func79,Tryz.ntmps79;go_wp2;go_ret;exact⟨rfl,zA _ _⟩
def zGV(w:World)(v:Value)(M:List (List Int)):Prop:=
 ∃ao n cap,v= .slice ao n cap/\M.length=n/\n<=cap/\cap<=9223372036854775807/\(M≠ []->∃(b o:Nat) (cs:Array Value),ao=some ⟨b,o,none⟩/\w.heap[b]?=some (.cells cs 46 (0,0))/\∀(k:Nat) (zs:List Int),M[k]?=some zs->∃rv,cs[o+k]?=some rv/\zBm w rv zs)
theorem zBl.off0{v:Value}(h:zBl w v M):zGV w v M:=by
 obtain⟨ao,n,cap,h1,h2,h3,h4,h5⟩:=h;refine⟨ao,n,cap,h1,h2,h3,h4,fun hn=>?_⟩;obtain⟨b,cs,e1,e2,e3⟩:=h5 hn;exact⟨b,0,cs,e1,e2,fun k zs hk=>by rw[zAX];exact e3 k zs hk⟩
theorem zGV.below{v:Value}(h:zGV w v M)(hb:Below w.heap.size w w'):zGV w' v M:=by
 obtain⟨ao,n,cap,h1,h2,h3,h4,h5⟩:=h;refine⟨ao,n,cap,h1,h2,h3,h4,fun hn=>?_⟩;obtain⟨b,o,cs,e1,e2,e3⟩:=h5 hn;refine⟨b,o,cs,e1,(hb.block _ (Array.getElem?_eq_some_iff.1 e2).1).trans e2,fun k zs hk=>?_⟩;obtain⟨rv,e4,e5⟩:=e3 k zs hk;exact⟨rv,e4,e5.below hb⟩
theorem zGV.row{n:Nat}(h:zGV w (.slice ao n cap) M){k:Nat}(hk:k<M.length):
  ∃b o ra rn rc zs,ao=some ⟨b,o,none⟩/\b<w.heap.size/\M[k]?=some zs/\w.cell? ⟨b,o+k,none⟩=some (.slice ra rn rc)/\zBm w (.slice ra rn rc) zs:=by
 obtain⟨ao',n',cap',h1,h2,h3,h4,h5⟩:=h;injection h1 with e1 e2 e3
 subst e1;obtain⟨b,o,cs,e,hr,hc⟩:=h5 (by rintro rfl;simp at hk);obtain⟨rv,c1,c2⟩:=hc k _ (xga hk);obtain⟨ra,rn,rc,rfl,c3⟩:=id c2;exact⟨b,o,ra,rn,rc,_,e,(Array.getElem?_eq_some_iff.1 hr).1,xga hk,(cell_of_row w b _ cs _ _ hr).trans c1,c2⟩
def zH2(w:World)(v:Value)(R C:Int)(M:List (List Int)):Prop:=∃A,v= .agg #[.int .i64 R,.int .i64 C,A]/\zGV w A M
theorem zAO.off{v:Value}(h:zAO w v R C M):zH2 w v R C M:=by
 obtain⟨A,h1,h2⟩:=h;exact⟨A,h1,h2.off0⟩
theorem zH2.below{v:Value}(h:zH2 w v R C M)(hb:Below w.heap.size w w'):zH2 w' v R C M:=by
 obtain⟨A,h1,h2⟩:=h;exact⟨A,h1,h2.below hb⟩
theorem zUE(v1 v2:Value)(R1 C1 R2 C2:Int)(M1 M2:List (List Int))(w:World)(h1:zAO w v1 R1 C1 M1)(h2:zAO w v2 R2 C2 M2):
  Calls Tryz.prog 24 #[v1,v2] w fun e w'=>e= .returned (.bool (decide (R1=R2/\C1=C2/\M1=M2)))/\Below w.heap.size w w':=by
 obtain⟨A1,rfl,h1⟩:=h1;obtain⟨A2,rfl,h2⟩:=h2;obtain⟨ao,n,cap,rfl,e2,e3,e4,-⟩:=id h1;obtain⟨bo,m,bcap,rfl,f2,f3,f4,-⟩:=id h2;have HX:=xgw e2;have HY:=xgw f2;clear e2 f2;by_cases hall:R1=R2/\C1=C2/\n=m
 ·obtain⟨rfl,rfl,rfl⟩:=hall
  have hd:decide (R1=R1/\C1=C1/\M1=M2)=decide (M1=M2):=by simp
  rw[hd];clear hd;go_enter Tryz.func24,Tryz.ntmps24;go_upto_region 1 with(fail)
  refine zD ?_;intro W0 hW0;obtain⟨hB0,bx1,bx2,hs0⟩:=zAd hW0;obtain⟨c1,c2,c3,c4,c5,c6⟩:=bx1.three;obtain⟨d1,d2,d3,d4,d5,d6⟩:=bx2.three;have h1:=h1.below hB0;have h2:=h2.below hB0;go_wp2;go_loopw [5] (fun i wr=>∃k:Nat,k<=n/\i= .int .i64 k/\Below w.heap.size w wr/\Below W0.heap.size W0 wr/\Hid (M1.take k=M2.take k)) (fun i _=>n-(intOf i).toNat)
  case atStart=>exact⟨0,by omega,rfl,hB0,zA _ _,by rw[jL,jL];exact xgw rfl⟩
  obtain⟨k,hk,rfl,hb,hb0,hsame⟩:=hrel;have bx1:=bx1.below hb0;have bx2:=bx2.below hb0;clear c1 c2 c3 c4 c5 c6 d1 d2 d3 d4 d5 d6;obtain⟨c1,c2,c3,c4,c5,c6⟩:=bx1.three;obtain⟨d1,d2,d3,d4,d5,d6⟩:=bx2.three;by_cases hlt:k<n
  ·obtain⟨b,ra,rn,rc,zs,rfl,hbl,hz,p1,hv⟩:=(h1.below hb0).row (k:=k) (by rw[HX.out];exact hlt)
   obtain⟨b',ra',rn',rc',zs',rfl,hbl',hz',q1,hv'⟩:=(h2.below hb0).row (k:=k) (by rw[HY.out];exact hlt);have HZ:=xgw hz;have HZ':=xgw hz';clear hz hz';have c3':=zBh c3;have d3':=zBh d3;have p1':=zBh p1;have q1':=zBh q1;go_upto_region 6 with(fail)
   go_still_tail 10,kR;change wpList _ _ _ _ _ wr.drew;go_wp2_with fail
   refine(zIy _ _ zs zs' _ (hv.below (dr _)) (hv'.below (dr _))).mono ?_;rintro e w1 ⟨rfl,hb1⟩;by_cases he:zs=zs'
   ·rw[decide_eq_true he]
    go_wp2;go_roundw
    case rel=>exact⟨k+1,by omega,by simp,nx (nx hb (dr _)) hb1,nx (nx hb0 (dr _)) hb1,xgw (zI6 hsame.out HZ.out HZ'.out he)⟩
    case measure=>simp[intOf];omega
   rw[decide_eq_false he];go_wp2;go_ret;exact⟨by rw[decide_eq_false (zGl HZ.out HZ'.out he)];rfl,nx (nx hb (dr _)) hb1⟩
  obtain rfl:k=n:=by omega
  go_wp2;go_ret;refine⟨?_,hb⟩;have:=hsame.out;rw[<-HX.out,yU,HX.out,<-HY.out,yU]at this;rw[decide_eq_true this];rfl
 have hne:¬ (R1=R2/\C1=C2/\M1=M2):=by
  rintro⟨a,b,c⟩;subst c;exact hall ⟨a,b,HX.out.symm.trans HY.out⟩
 rw[decide_eq_false hne];clear hne;by_cases hR:R1=R2
 ·by_cases hC:C1=C2
  ·have hn:¬ (n:Int)=(m:Int):=fun h=>hall ⟨hR,hC,by omega⟩
   clear hall;go_enter Tryz.func24,Tryz.ntmps24;go_upto_region 1 with(fail)
   refine zD ?_;intro W0 hW0;obtain⟨hB0,bx1,bx2,hs0⟩:=zAd hW0;obtain⟨c1,c2,c3,c4,c5,c6⟩:=bx1.three;obtain⟨d1,d2,d3,d4,d5,d6⟩:=bx2.three;go_wp2;go_ret;exact⟨rfl,hB0⟩
  clear hall;go_enter Tryz.func24,Tryz.ntmps24;go_upto_region 1 with(fail)
  refine zD ?_;intro W0 hW0;obtain⟨hB0,bx1,bx2,hs0⟩:=zAd hW0;obtain⟨c1,c2,c3,c4,c5,c6⟩:=bx1.three;obtain⟨d1,d2,d3,d4,d5,d6⟩:=bx2.three;go_wp2;go_ret;exact⟨rfl,hB0⟩
 clear hall;go_enter Tryz.func24,Tryz.ntmps24;go_upto_region 1 with(fail)
 refine zD ?_;intro W0 hW0;obtain⟨hB0,bx1,bx2,hs0⟩:=zAd hW0;obtain⟨c1,c2,c3,c4,c5,c6⟩:=bx1.three;obtain⟨d1,d2,d3,d4,d5,d6⟩:=bx2.three;go_wp2;go_ret;exact⟨rfl,hB0⟩
def zBL(R C:Int)(M:List (List Int)):Prop:=0<=R/\0<=C/\(M.length:Int)=R/\∀r∈M,(r.length:Int)=C
instance (R C:Int) (M:List (List Int)):Decidable (zBL R C M):=inferInstanceAs (Decidable (_/\_))
theorem zNf(v:Value)(R C:Int)(M:List (List Int))(w:World)(h:zH2 w v R C M):
  Calls Tryz.prog 130 #[v] w fun e w'=>e= .returned (.bool (decide (zBL R C M)))/\Below w.heap.size w w':=by
 obtain⟨A,rfl,h⟩:=h;obtain⟨ao,n,cap,rfl,e2,e3,e4,-⟩:=id h;have HX:=xgw e2;clear e2;by_cases hall:0<=R/\0<=C/\(n:Int)=R
 ·obtain⟨h0,h1,rfl⟩:=hall
  have hd:decide (zBL n C M)=decide (∀r∈M,(r.length:Int)=C):=decide_eq_decide.2 ⟨fun h=>h.2.2.2,fun h=>⟨h0,h1,by rw[HX.out],h⟩⟩;rw[hd];clear hd;go_enter Tryz.func130,Tryz.ntmps130;go_upto_region 1 with(fail)
  refine zD ?_;intro W0 hW0;obtain⟨hB0,bx1,hs0⟩:=qM hW0;obtain⟨c1,c2,c3,c4,c5,c6⟩:=bx1.three;have h:=h.below hB0;go_wp2;go_loopw [3] (fun i wr=>∃k:Nat,k<=n/\i= .int .i64 k/\Below w.heap.size w wr/\Below W0.heap.size W0 wr/\Hid (∀r∈M.take k,(r.length:Int)=C)) (fun i _=>n-(intOf i).toNat)
  case atStart=>exact⟨0,by omega,rfl,hB0,zA _ _,by rw[jL];exact xgw (fun r hr=>by cases hr)⟩
  obtain⟨k,hk,rfl,hb,hb0,hall⟩:=hrel;have bx1:=bx1.below hb0;clear c1 c2 c3 c4 c5 c6;obtain⟨c1,c2,c3,c4,c5,c6⟩:=bx1.three;by_cases hlt:k<n
  ·obtain⟨b,o,ra,rn,rc,zs,rfl,hbl,hz,p1,hv⟩:=(h.below hb0).row (k:=k) (by rw[HX.out];exact hlt)
   have HZ:=xgw hz;have HL:=xgw hv.len.1;clear hz;have c2':=zBh c2;have c3':=zBh c3;have p1':=zBh p1;go_upto_region 6 with(fail)
   by_cases hrc:(rn:Int)=C
   ·go_still_tail 15,kR
    change wpList _ _ _ _ _ wr.drew;go_wp2_with fail
    refine(zMZ _ zs _ (hv.below (dr _))).mono ?_;rintro e w1 ⟨rfl,hb1⟩;go_wp2;go_roundw
    case rel=>
     refine⟨k+1,by omega,by simp,nx (nx hb (dr _)) hb1,nx (nx hb0 (dr _)) hb1,xgw ?_⟩;rw[yY,HZ.out];intro r hr;rcases List.mem_append.1 hr with hr|hr
     exact hall.out r hr;simp at hr;rw[hr,HL.out,hrc]
    case measure=>simp[intOf];omega
   go_quiet (fail);go_wp2;go_ret;refine⟨?_,nx hb (drN _ _)⟩;have hbad:¬ ∀r∈M,(r.length:Int)=C:=fun hh=>hrc (by rw[<-HL.out];exact hh zs (xgd HZ.out))
   rw[decide_eq_false hbad];rfl
  obtain rfl:k=n:=by omega
  go_wp2;go_ret;refine⟨?_,hb⟩;have:=hall.out;rw[<-HX.out,yU]at this;rw[decide_eq_true this];rfl
 have hne:¬ zBL R C M:=by
  rintro⟨a,b,c,-⟩;exact hall ⟨a,b,by rw[<-HX.out];exact c⟩
 rw[decide_eq_false hne];clear hne;by_cases hR:0<=R
 ·have hR':¬ R<0:=by omega
  by_cases hC:0<=C
  ·have hn:¬ (n:Int)=R:=fun h=>hall ⟨hR,hC,h⟩
   have hC':¬ C<0:=by omega
   clear hall;go_enter Tryz.func130,Tryz.ntmps130;go_upto_region 1 with(fail)
   refine zD ?_;intro W0 hW0;obtain⟨hB0,bx1,hs0⟩:=qM hW0;obtain⟨c1,c2,c3,c4,c5,c6⟩:=bx1.three;go_wp2;go_ret;exact⟨rfl,hB0⟩
  have hC':C<0:=by omega
  clear hall;go_enter Tryz.func130,Tryz.ntmps130;go_upto_region 1 with(fail)
  refine zD ?_;intro W0 hW0;obtain⟨hB0,bx1,hs0⟩:=qM hW0;obtain⟨c1,c2,c3,c4,c5,c6⟩:=bx1.three;go_wp2;go_ret;exact⟨rfl,hB0⟩
 have hR':R<0:=by omega
 clear hall;go_enter Tryz.func130,Tryz.ntmps130;go_upto_region 1 with(fail)
 refine zD ?_;intro W0 hW0;obtain⟨hB0,bx1,hs0⟩:=qM hW0;obtain⟨c1,c2,c3,c4,c5,c6⟩:=bx1.three;go_wp2;go_ret;exact⟨rfl,hB0⟩
theorem zIt(v:Value)(R C:Int)(M:List (List Int))(w:World)(h:zAO w v R C M):
  Calls Tryz.prog 130 #[v] w fun e w'=>e= .returned (.bool (decide (zBL R C M)))/\Below w.heap.size w w':=zNf v R C M w h.off
theorem zBX(h:z=0):zAp z 0=0:=by subst h;rfl
theorem zCi(h:z≠0):zAp z 0≠0:=by unfold zAp;split<;>(try split)<;>omega
theorem zMw(v1 v2:Value)(a b:Int)(w:World)(h1:jT w v1 a)(h2:jT w v2 b)(s1:Smd a)(s2:Smd b):
  Calls Tryz.prog 160 #[v1,v2] w fun e w'=>e= .returned (.bool (decide (a∣b)))/\Below w.heap.size w w':=by
 by_cases ha:a=0
 ·have hd:decide (a∣b)=decide (b=0):=by
   subst ha;exact decide_eq_decide.2 Int.zero_dvd
  rw[hd];clear hd;obtain⟨neg1,ao1,n1,cap1,xs,rfl,i1⟩:=id h1;obtain⟨neg2,ao2,n2,cap2,ys,rfl,i2⟩:=id h2;have HS1:=xgv s1;have HS2:=xgv s2;clear s1 s2 i1 i2;go_enter Tryz.func160,Tryz.ntmps160;go_upto_region 1 with(fail)
  refine zD ?_;intro W0 hW0;obtain⟨hB0,bx1,bx2,hs0⟩:=zAd hW0;obtain⟨c1,c2,c3,c4⟩:=bx1.two;have h1:=h1.ext (lx hB0);have h2:=h2.ext (lx hB0);go_wp2_with fail
  refine(zAa _ a W0 h1.weak).mono ?_;rintro e w1 ⟨rfl,hb1⟩;rw[zBX ha];have bx2:=bx2.below hb1;have h2:=h2.ext (lx hb1);obtain⟨d1,d2,d3,d4⟩:=bx2.two;clear c1 c2 c3 c4;go_wp2_with fail
  refine(zAa _ b w1 h2.weak).mono ?_;rintro e w2 ⟨rfl,hb2⟩;by_cases hb:b=0
  ·rw[zBX hb]
   go_wp2;go_ret;exact⟨by rw[decide_eq_true hb];rfl,nx (nx hB0 hb1) hb2⟩
  have hc:=zCi hb;obtain⟨k,hk⟩:∃k,zAp b 0=k:=⟨_,rfl⟩;rw[hk]at hc ⊢
  have hkb:(k==0)=false:=by simpa using hc
  go_wp2;go_ret;exact⟨by rw[decide_eq_false hb];rfl,nx (nx hB0 hb1) hb2⟩
 have hd:decide (a∣b)=decide (b%a=0):=decide_eq_decide.2 Int.dvd_iff_emod_eq_zero;rw[hd];clear hd;obtain⟨neg1,ao1,n1,cap1,xs,rfl,i1⟩:=id h1;obtain⟨neg2,ao2,n2,cap2,ys,rfl,i2⟩:=id h2;have HS1:=xgv s1;have HS2:=xgv s2;clear s1 s2 i1 i2;go_enter Tryz.func160,Tryz.ntmps160;go_upto_region 1 with(fail)
 refine zD ?_;intro W0 hW0;obtain⟨hB0,bx1,bx2,hs0⟩:=zAd hW0;obtain⟨c1,c2,c3,c4⟩:=bx1.two;have h1:=h1.ext (lx hB0);have h2:=h2.ext (lx hB0);go_wp2_with fail
 refine(zAa _ a W0 h1.weak).mono ?_;rintro e w1 ⟨rfl,hb1⟩;have hc:=zCi ha;obtain⟨k,hk⟩:∃k,zAp a 0=k:=⟨_,rfl⟩;rw[hk]at hc ⊢
 clear hk;have bx1:=bx1.below hb1;have bx2:=bx2.below hb1;have h1:=h1.ext (lx hb1);have h2:=h2.ext (lx hb1);clear c1 c2 c3 c4;obtain⟨c1,c2,c3,c4⟩:=bx1.two;obtain⟨d1,d2,d3,d4⟩:=bx2.two;go_wp2_with fail
 refine(zDj _ _ b a w1 h2.weak h1.weak HS2.out.sm HS1.out.sm ha).mono ?_;rintro e w2 ⟨q0,r0,rfl,hq,hr,hb2⟩;obtain⟨qn,qa,ql,qc,qx,rfl,hq'⟩:=id hq;obtain⟨rn,ra,rl,rc,rx,rfl,hr'⟩:=id hr;have HQ':=xgw hq';have HR':=xgw hr';clear hq' hr' c1 c2 c3 c4 d1 d2 d3 d4;go_upto_region 4 with(fail)
 refine zD ?_;intro W3 hW3;obtain⟨hB3,T5,T6,hs3⟩:=zAd hW3;have hr:=hr.ext (lx hB3);obtain⟨d1,d2,d3,d4⟩:=T6.two;go_wp2_with fail
 refine(zAa _ (b%a) W3 hr.weak).mono ?_;rintro e w4 ⟨rfl,hb4⟩;by_cases hb:b%a=0
 ·rw[zBX hb]
  go_wp2;go_ret;exact⟨by rw[decide_eq_true hb];rfl,nx (nx (nx (nx hB0 hb1) hb2) hB3) hb4⟩
 have hc2:=zCi hb;obtain⟨k2,hk2⟩:∃k,zAp (b%a) 0=k:=⟨_,rfl⟩;rw[hk2]at hc2 ⊢
 have hkb2:(k2==0)=false:=by simpa using hc2
 go_wp2;go_ret;exact⟨by rw[decide_eq_false hb];rfl,nx (nx (nx (nx hB0 hb1) hb2) hB3) hb4⟩
def zGU(i C:Nat)(r:List Int):Prop:=∀k,k<C->k≠i->r.getD k 0=0
instance (i C:Nat) (r:List Int):Decidable (zGU i C r):=inferInstanceAs (Decidable (∀k,k<C->_))
def zXy(C:Nat):Nat->Int->List (List Int)->Bool
 |_,_,[]=>true
 |i,last,r::rs=>decide (zGU i C r) && (if i<C then decide (0<=r.getD i 0) && decide (last∣r.getD i 0) && zXy C (i+1) (r.getD i 0) rs else zXy C (i+1) last rs)
def IsM(R C:Int)(M:List (List Int)):Bool:=decide (zBL R C M) && zXy C.toNat 0 1 M
theorem zDV{α:Type}{l:List α}{k:Nat}{x:α}(h:l[k]?=some x):l.drop k=x::l.drop (k+1):=by
 obtain⟨h1,h2⟩:=xge.1 h;rw[jD h1,h2]
theorem zBu{α:Type}{l:List α}{k:Nat}{x d:α}(h:l[k]?=some x):l.getD k d=x:=by simp[xgb,h]
theorem Smd.one{z:Int}(h:z.natAbs<=1):Smd z:=⟨zJ h (by
 have h1:=zJW 0 zSy (by rw[zEH];omega)
 rw[zEI]at h1
 exact h1)⟩
abbrev zFm:=@Smd.one
theorem zF0(v:Value)(R C:Int)(M:List (List Int))(w:World)(h:zH2 w v R C M):
  Calls Tryz.prog 85 #[v] w fun e w'=>e= .returned (.bool (decide (zBL R C M)))/\Below w.heap.size w w':=by
 obtain⟨A,rfl,h⟩:=h;obtain⟨ao,n,cap,rfl,e2,e3,e4,-⟩:=id h;have HX:=xgw e2;clear e2;by_cases hall:0<=R/\0<=C/\(n:Int)=R
 ·obtain⟨h0,h1,rfl⟩:=hall
  have hd:decide (zBL n C M)=decide (∀r∈M,(r.length:Int)=C):=decide_eq_decide.2 ⟨fun h=>h.2.2.2,fun h=>⟨h0,h1,by rw[HX.out],h⟩⟩;rw[hd];clear hd;go_enter Tryz.func85,Tryz.ntmps85;go_upto_region 1 with(fail)
  refine zD ?_;intro W0 hW0;obtain⟨hB0,bx1,hs0⟩:=qM hW0;obtain⟨c1,c2,c3,c4,c5,c6⟩:=bx1.three;go_wp2;clear c1 c2 c3 c4 c5 c6;go_loopw [26] (fun i wr=>∃k:Nat,k<=n/\i= .int .i64 k/\Below w.heap.size w wr/\Blk wr w.heap.size 32 #[.int .i64 n,.int .i64 C,.slice ao n cap]/\Hid (∀r∈M.take k,(r.length:Int)=C)) (fun i _=>n-(intOf i).toNat)
  case atStart=>exact⟨0,by omega,rfl,hB0,bx1,by rw[jL];exact xgw (fun r hr=>by cases hr)⟩
  obtain⟨k,hk,rfl,hb,bx1,hall⟩:=hrel;obtain⟨c1,c2,c3,c4,c5,c6⟩:=bx1.three;by_cases hlt:k<n
  ·obtain⟨b,o,ra,rn,rc,zs,rfl,hbl,hz,p1,hv⟩:=(h.below hb).row (k:=k) (by rw[HX.out];exact hlt)
   have HZ:=xgw hz;have hvl:=hv.len;have HL:=xgw hvl.1;obtain⟨-,hl2,hl3⟩:=hvl;clear hz;by_cases hrc:(rn:Int)=C
   ·go_wp2
    clear c1 c2 c3 c4 c5 c6;go_loopw [37] (fun j wr'=>∃m:Nat,m<=rn/\j= .int .i64 m/\Below wr.heap.size wr wr') (fun j _=>rn-(intOf j).toNat)
    case atStart=>exact⟨0,by omega,rfl,zA _ _⟩
    rename World=>wr'
    obtain⟨m,hm,rfl,hb'⟩:=hrel;by_cases hmr:m<rn
    ·obtain⟨b',z,s,a,l,c,rfl,hbl',hzk,q1,q2,hzv⟩:=(hv.below hb').cell (k:=m) (by rw[HL.out];exact hmr)
     clear hzk;go_upto_region 11 with(fail)
     refine zD ?_;intro W6 hW6;obtain⟨hB6,T6,hs6⟩:=qM hW6;obtain⟨d1,d2,d3,d4⟩:=T6.two;clear q1 q2 hW6;go_wp2_with fail
     refine(zMY _ z W6 (hzv.ext (lx hB6))).mono ?_;rintro e w7 ⟨rfl,hb7⟩;go_wp2;go_roundw
     case rel=>exact⟨m+1,by omega,by simp,nx (nx hb' hB6) hb7⟩
     case measure=>simp[intOf];omega
    obtain rfl:m=rn:=by omega
    have bx1:=bx1.below hb';go_wp2;go_roundw
    case rel=>
     refine⟨k+1,by omega,by simp,nx hb hb',bx1,xgw ?_⟩;rw[yY,HZ.out];intro r hr;rcases List.mem_append.1 hr with hr|hr
     exact hall.out r hr;simp at hr;rw[hr,HL.out,hrc]
    case measure=>simp[intOf];omega
   go_wp2;go_ret;refine⟨?_,hb⟩;have hbad:¬ ∀r∈M,(r.length:Int)=C:=fun hh=>hrc (by rw[<-HL.out];exact hh zs (xgd HZ.out))
   rw[decide_eq_false hbad];rfl
  obtain rfl:k=n:=by omega
  go_wp2;go_ret;refine⟨?_,hb⟩;have:=hall.out;rw[<-HX.out,yU]at this;rw[decide_eq_true this];rfl
 have hne:¬ zBL R C M:=by
  rintro⟨a,b,c,-⟩;exact hall ⟨a,b,by rw[<-HX.out];exact c⟩
 rw[decide_eq_false hne];clear hne;by_cases hR:0<=R
 ·have hR':¬ R<0:=by omega
  by_cases hC:0<=C
  ·have hn:¬ (n:Int)=R:=fun h=>hall ⟨hR,hC,h⟩
   have hC':¬ C<0:=by omega
   clear hall;go_enter Tryz.func85,Tryz.ntmps85;go_upto_region 1 with(fail)
   refine zD ?_;intro W0 hW0;obtain⟨hB0,bx1,hs0⟩:=qM hW0;obtain⟨c1,c2,c3,c4,c5,c6⟩:=bx1.three;go_wp2;go_ret;exact⟨rfl,hB0⟩
  have hC':C<0:=by omega
  clear hall;go_enter Tryz.func85,Tryz.ntmps85;go_upto_region 1 with(fail)
  refine zD ?_;intro W0 hW0;obtain⟨hB0,bx1,hs0⟩:=qM hW0;obtain⟨c1,c2,c3,c4,c5,c6⟩:=bx1.three;go_wp2;go_ret;exact⟨rfl,hB0⟩
 have hR':R<0:=by omega
 clear hall;go_enter Tryz.func85,Tryz.ntmps85;go_upto_region 1 with(fail)
 refine zD ?_;intro W0 hW0;obtain⟨hB0,bx1,hs0⟩:=qM hW0;obtain⟨c1,c2,c3,c4,c5,c6⟩:=bx1.three;go_wp2;go_ret;exact⟨rfl,hB0⟩
theorem zDH(v:Value)(R C:Int)(M:List (List Int))(w:World)(h:zAO w v R C M):
  Calls Tryz.prog 85 #[v] w fun e w'=>e= .returned (.bool (decide (zBL R C M)))/\Below w.heap.size w w':=zF0 v R C M w h.off
def zEb:Nat->List (List Int)->Bool
 |_,[]=>true
 |i,r::rs=>decide (zGU i r.length r) && zEb (i+1) rs
theorem zO1{r:List Int}(h:¬ zGU i r.length r):zEb i (r::rs)=false:=by
 unfold zEb;rw[decide_eq_false h,Bool.false_and]
theorem zMt{r:List Int}(h:zGU i r.length r):zEb i (r::rs)=zEb (i+1) rs:=by
 conv=>lhs;unfold zEb
 rw[decide_eq_true h,Bool.true_and]
theorem zLf(v:Value)(R C:Int)(M:List (List Int))(w:World)(h:zAO w v R C M):
  Calls Tryz.prog 159 #[v] w fun e w'=>e= .returned (.bool (zEb 0 M))/\Below w.heap.size w w':=by
 obtain⟨A,rfl,h⟩:=h;obtain⟨ao,n,cap,rfl,e2,e3,e4,-⟩:=id h;have HX:=xgw e2;clear e2;go_enter Tryz.func159,Tryz.ntmps159;go_upto_region 1 with(fail)
 refine zD ?_;intro W0 hW0;obtain⟨hB0,bx1,hs0⟩:=qM hW0;obtain⟨c1,c2,c3,c4,c5,c6⟩:=bx1.three;go_wp2;clear c1 c2 c3 c4 c5 c6;go_loopw [10] (fun i wr=>∃k:Nat,k<=n/\i= .int .i64 k/\Below w.heap.size w wr/\Hid (zEb 0 M=zEb k (M.drop k))) (fun i _=>n-(intOf i).toNat)
 case atStart=>exact⟨0,by omega,rfl,hB0,by rw[xgk];exact xgw rfl⟩
 obtain⟨k,hk,rfl,hb,hgo⟩:=hrel;by_cases hlt:k<n
 ·obtain⟨b,ra,rn,rc,zs,rfl,hbl,hz,p1,hv⟩:=(h.below hb).row (k:=k) (by rw[HX.out];exact hlt)
  have HZ:=xgw hz;have hvl:=hv.len;have HL:=xgw hvl.1;obtain⟨-,hl2,hl3⟩:=hvl;clear hz;go_wp2;go_loopw [17] (fun j wr'=>∃m:Nat,m<=rn/\j= .int .i64 m/\Below wr.heap.size wr wr'/\Hid (∀k',k'<m->k'≠k->zs.getD k' 0=0)) (fun j _=>rn-(intOf j).toNat)
  case atStart=>exact⟨0,by omega,rfl,zA _ _,xgw (fun k' h=>absurd h oM)⟩
  obtain⟨m,hm,rfl,hb',hoff⟩:=hrel;by_cases hmr:m<rn
  ·obtain⟨b',z,s,a,l,c,rfl,hbl',hzk,q1,q2,hzv⟩:=(hv.below hb').cell (k:=m) (by rw[HL.out];exact hmr)
   have HZK:=xgw hzk;clear hzk;go_upto_region 7 with(fail)
   refine zD ?_;intro W6 hW6;obtain⟨hB6,T6,hs6⟩:=qM hW6;obtain⟨d1,d2,d3,d4⟩:=T6.two;clear q1 q2 hW6;by_cases hki:m=k
   ·subst hki
    go_wp2;go_roundw
    case rel=>exact⟨m+1,by omega,by simp,nx hb' hB6,xgw (fun k' h1 h2=>hoff.out k' oM h2)⟩
    case measure=>simp[intOf];omega
   have hki':¬ (k:Int)=(m:Int):=by omega
   have hbn:((k:Int) !=(m:Int))=true:=by simpa using hki'
   go_wp2_with fail
   refine(zAa _ z W6 (hzv.ext (lx hB6)).weak).mono ?_;rintro e w7 ⟨rfl,hb7⟩;have hb9:=nx (nx hb' hB6) hb7;by_cases hz0:z=0
   ·rw[zBX hz0]
    go_wp2;go_roundw
    case rel=>
     refine⟨m+1,by omega,by simp,hb9,xgw (fun k' h1 h2=>?_)⟩;rcases zG k' m with h3|h3
     exact hoff.out k' h3 h2;obtain rfl:k'=m:=by omega
     rw[zBu HZK.out,hz0]
    case measure=>simp[intOf];omega
   have hc:=zCi hz0;obtain⟨k0,hk0⟩:∃k0,zAp z 0=k0:=⟨_,rfl⟩;rw[hk0]at hc ⊢
   have hkb:(k0==0)=false:=by simpa using hc
   have hkb2:(k0 !=0)=true:=by simpa using hc
   go_wp2;go_ret;refine⟨?_,nx hb hb9⟩;rw[hgo.out,zDV HZ.out,zO1 (fun ho=>hz0 (by rw[<-zBu HZK.out];exact ho m (by rw[HL.out];exact hmr) oM))];rfl
  obtain rfl:m=rn:=by omega
  go_wp2;go_roundw
  case rel=>
   refine⟨k+1,by omega,by simp,nx hb hb',xgw ?_⟩;rw[hgo.out,zDV HZ.out,zMt (by intro k' h1 h2;rw[HL.out]at h1;exact hoff.out k' h1 h2)]
  case measure=>simp[intOf];omega
 obtain rfl:k=n:=by omega
 go_wp2;go_ret;refine⟨?_,hb⟩;rw[hgo.out,qJ (zBU HX.out)];rfl
theorem Tryz.infoI:(Tryz.prog.info? tI).map (fun i=>(i.zero,i.size,i.bytes))=some (some (.agg #[.bool false,.slice none 0 0]),2,32):=by kernel_rfl
abbrev zD8:=@Tryz.infoI
def zWc(w:World)(cells:List Value)(zs:List Int):Prop:=
 ∀(k:Nat) (z:Int),zs[k]?=some z->∃s a l c,cells[k*2]?=some (.bool s)/\cells[k*2+1]?=some (.slice a l c)/\jT w (.agg #[.bool s,.slice a l c]) z
def zEW(w:World)(base:Nat)(v:Value)(zs:List Int):Prop:=∃cells,w.ownsRow base tI 2 v zs.length cells/\zWc w cells zs
theorem zEW.nil(w:World)(base:Nat):zEW w base (.slice none 0 0) []:=⟨[],zB6 _ _ _ _,fun k z h=>by simp at h⟩
theorem zEW.below{v:Value}(h:zEW w base v zs)(hb:Below w.heap.size w w'):zEW w' base v zs:=by
 obtain⟨cells,h1,h2⟩:=h;refine⟨cells,h1.kept (row:=none) ⟨hb.os,hb.tape,hb.output,hb.size,fun k hk _=>hb.block k hk⟩ (by cases hv:v.ownBlock<;>simp),fun k z hk=>?_⟩;obtain⟨s,a,l,c,e1,e2,e3⟩:=h2 k z hk;exact⟨s,a,l,c,e1,e2,e3.ext (lx hb)⟩
theorem zEW.vec{v:Value}(h:zEW w base v zs):zBm w v zs:=by
 obtain⟨cells,⟨h0,h1⟩,h2⟩:=h;rcases h1 with⟨rfl,hn⟩|⟨g,cap,cur,rfl,hg,hh,hnc,hc,hs,ht⟩
 ·have:zs= []:=qB hn
  subst this;exact zBm.nil w
 refine⟨some ⟨g,0,none⟩,zs.length,cap,rfl,rfl,hnc,hc,fun _=>⟨g,rfl,cur,hh,fun k z hk=>?_⟩⟩;obtain⟨s,a,l,c,e1,e2,e3⟩:=h2 k z hk;have hk':k<zs.length:=(xge.1 hk).1;rw[<-ht,List.getElem?_take_of_lt oM]at e1 e2;exact⟨s,a,l,c,by simpa using e1,by simpa using e2,e3⟩
theorem zEW.len{v:Value}(h:zEW w base v zs):∃ao cap,v= .slice ao zs.length cap/\zs.length<=cap/\cap<=9223372036854775807:=by
 obtain⟨ao,n,cap,h1,h2,h3,h4,-⟩:=h.vec;subst h2;exact⟨ao,cap,h1,h3,h4⟩
theorem zEF{v:Value}{n:Nat}{xs:List Value}{e:TypeId}{size:Nat}(h:w.ownsRow base e size v n xs)(he:e≠tU)(hg:w.grownBy w' v.ownBlock):zBq w w':=by
 intro b cs fz hb;have hlt:=(Array.getElem?_eq_some_iff.1 hb).1;by_cases hv:v.ownBlock=some b
 ·exfalso
  rcases h.2 with⟨rfl,-⟩|⟨g,cap,cur,rfl,-,hh,-⟩
  cases hv;simp only[Value.ownBlock,Option.some.injEq]at hv;subst hv;rw[hh]at hb;injection hb with hb
  injection hb with _ ht
  exact he ht
 have hne:∀k,v.ownBlock=some k->b≠k:=fun k hk e=>hv (by rw[hk,e])
 rw[hg.block b hlt (by
  intro hh;exact hv hh.symm)]
 exact hb
theorem zXe{w:World}{ops:Array Oper}{rest:List Oper}{o:Oper}{a:Act}{Q:Exit->Act->World->Prop}(hgd:o.guard=none)(s x:Operand)
  (ho:o.op= .call {callee:=.builtin .append,args:=#[s,x],argTypes:=#[46,46]})
  (base:Nat) (v:Value) (zs:List Int) (hs:a.eval s=v) (hown:zEW w base v zs) (b:Nat) (c:Nat) (sn:Bool) (sa:Option Addr) (sl sc:Nat) (z:Int) (hx:a.eval x= .slice (some ⟨b,0,none⟩) 1 c)
  (hb:Blk w b tI #[.bool sn,.slice sa sl sc]) (hz:jT w (.agg #[.bool sn,.slice sa sl sc]) z)
  (hlen:zs.length+1<=1099511627776) (hbase:base<=w.heap.size)
  (h:∀v' w',zEW w' base v' (zs++ [z])->w.grownBy w' v.ownBlock->zBq w w'->wpList Tryz.prog ops Q rest (a.put o.dst v') w'):wpList Tryz.prog ops Q (o::rest) a w:=by
 obtain⟨i0,hi,hz0,hz1,hz2⟩:=info_parts zD8;obtain⟨cells,h1,h2⟩:=hown;have hcl:cells.length=zs.length*2:=h1.1;obtain⟨c1,c2,-,-⟩:=hb.two;refine wpList_append_own w hgd s x 46 ho base tI i0 _ 2 32 zB5 hi hz0 hz1 hz2 rfl oM v zs.length cells hs h1 ⟨b,0,none⟩ 1 c [.bool sn,.slice sa sl sc] hx rfl ?_ ?_ (by simp[maxLen];omega) oM hbase ?_
 ·intro j u hj
  rw[zAJ];match j with
  |0=>simp at hj;subst hj;exact c1
  |1=>simp at hj;subst hj;exact c2
  |j+2=>simp at hj
 ·intro u hu
  simp at hu;rcases hu with rfl|rfl<;>rfl
 intro v' w' k1 k2 _;have hx:=zEF h1 dE k2;refine h v' w' ⟨cells++ [.bool sn,.slice sa sl sc],by simpa using k1,?_⟩ k2 hx;intro k y hk;rcases zG k zs.length with hlt|hge
 ·rw[List.getElem?_append_left hlt]at hk
  obtain⟨s',a',l',c',e1,e2,e3⟩:=h2 k y hk;exact⟨s',a',l',c',by rw[List.getElem?_append_left oM];exact e1,by rw[List.getElem?_append_left oM];exact e2,e3.ext hx⟩
 rw[List.getElem?_append_right hge]at hk;have hk0:k=zs.length:=by
  have:=(xge.1 hk).1;simp at this;omega
 subst hk0;simp at hk;subst hk;refine⟨sn,sa,sl,sc,?_,?_,hz.ext hx⟩;rw[List.getElem?_append_right oM,hcl];simp;rw[List.getElem?_append_right oM,hcl];rw[show zs.length*2+1-zs.length*2=1 by omega];rfl
theorem zEW.own{v:Value}(h:zEW w base v zs):∀g,v.ownBlock=some g->base<=g:=by
 intro g hg;obtain⟨cells,⟨h0,h1⟩,h2⟩:=h;rcases h1 with⟨rfl,hn⟩|⟨g',cap,cur,rfl,hg',-⟩
 cases hg;simp only[Value.ownBlock,Option.some.injEq]at hg;omega
theorem zEW.mono{base':Nat}{v:Value}(h:zEW w base v zs)(hb:base'<=base):zEW w base' v zs:=by
 obtain⟨cells,⟨h0,h1⟩,h2⟩:=h;refine⟨cells,⟨h0,?_⟩,h2⟩;rcases h1 with h1|⟨g,cap,cur,e1,e2,e3⟩
 exact .inl h1;exact .inr ⟨g,cap,cur,e1,zB hb e2,e3⟩
theorem zEW.set2{v:Value}(h:zEW w base v zs)(hr:r<base)(hb:Blk w r t cs)(ht:t≠tU)(x y:Value):zEW ((w.setCell ⟨r,0,none⟩ x).setCell ⟨r,1,none⟩ y) base v zs:=by
 have hx:=hb.lext2 ht x y;obtain⟨cells,h1,h2⟩:=h;refine⟨cells,ownsRow_setCell_below (ownsRow_setCell_below h1 (a:=⟨r,0,none⟩) hr x) (a:=⟨r,1,none⟩) hr y,fun k z hk=>?_⟩;obtain⟨s,a,l,c,e1,e2,e3⟩:=h2 k z hk;exact⟨s,a,l,c,e1,e2,e3.ext hx⟩
def zGp(M:List (List Int))(n:Nat):List Int:=(List.range n).map fun k=>(M.getD k []).getD k 0
theorem zO3(M:List (List Int))(n:Nat):zGp M (n+1)=zGp M n++ [(M.getD n []).getD n 0]:=by
 unfold zGp;rw[zCb,zBY];rfl
theorem zFa(M:List (List Int))(n:Nat):(zGp M n).length=n:=by simp[zGp]
theorem zHl(v:Value)(R C:Nat)(M:List (List Int))(w:World)(h:zAO w v R C M)(hF:zBc R C M)(hR:R<=1000000)(hC:C<=1000000):
  Calls Tryz.prog 116 #[v] w fun e w'=>∃u,e= .returned u/\zEW w' w.heap.size u (zGp M (min R C))/\Below w.heap.size w w':=by
 obtain⟨A,rfl,h⟩:=h;obtain⟨ao,n,cap,rfl,e2,e3,e4,-⟩:=id h;have HX:=xgw e2;obtain⟨hF1,hF2⟩:=hF;have HF:=xgw hF2;obtain rfl:n=R:=by rw[<-e2,hF1]
 obtain⟨m,hm⟩:∃m,min n C=m:=⟨_,rfl⟩;have hmn:m<=n:=by omega
 have hmc:m<=C:=by omega
 have hmi:min (n:Int) (C:Int)=(m:Int):=by omega
 rw[hm];clear e2 hF1 hF2;go_enter Tryz.func116,Tryz.ntmps116;go_upto_region 2 with(fail)
 refine zD ?_;intro W0 hW0;obtain⟨hB0,bx1,hs0⟩:=qM hW0;obtain⟨c1,c2,c3,c4,c5,c6⟩:=bx1.three;go_wp2;clear c1 c2 c3 c4 c5 c6;go_loopw [3,10] (fun u iv wr=>∃k:Nat,k<=m/\iv= .int .i64 k/\zEW wr (w.heap.size+1) u (zGp M k)/\Below w.heap.size w wr/\Blk wr w.heap.size 32 #[.int .i64 n,.int .i64 C,.slice ao n cap]) (fun _ iv _=>m-(intOf iv).toNat)
 case atStart=>exact⟨0,by omega,rfl,zEW.nil _ _,hB0,bx1⟩
 obtain⟨k,hk,rfl,ho,hb,bx1⟩:=hrel;by_cases hlt:k<m
 ·obtain⟨c1,c2,c3,c4,c5,c6⟩:=bx1.three
  obtain⟨b,ra,rn,rc,zs,rfl,hbl,hz,p1,hv⟩:=(h.below hb).row (k:=k) (by rw[HX.out];omega);have hzl:=HF.out zs (xgd hz);have hrn:=hv.len.1;obtain rfl:rn=C:=by omega
  obtain⟨b',z,s,a,l,c,rfl,hbl',hzk,q1,q2,hzv⟩:=hv.cell (k:=k) oM;have hd:Hid (zGp M (k+1)=zGp M k++ [z]):=by
   rw[zO3,zBu hz,zBu hzk];exact xgw rfl
  clear hz hzk hzl;go_wp2_with (at_builtin;refine zXe rfl _ _ rfl (w.heap.size+1) _ (zGp M k) rfl (ho.below ((zA _ _).alloc (xgf _) _)) wr.heap.size 1 s a l c z rfl (qQ _ _ _) (hzv.ext (lx ((zA _ _).alloc (xgf _) _))) (by rw[zFa];omega) (by have:=bx1.lt;simp;omega) ?_;intro v' w' hown hgr hxg)
  have hgr:World.grownBy (wr.alloc (.cells #[.bool s,.slice a l c] tI)) w' (Value.ownBlock u3):=hgr;have hB9:Below w.heap.size w w':=(hb.alloc hb.size _).grown hgr (by have:=hb.size;simp;omega) (fun g hg=>by have:=ho.own g hg;omega);have bx9:Blk w' w.heap.size 32 #[.int .i64 n,.int .i64 rn,.slice (some ⟨b,0,none⟩) n cap]:=
   (hgr.block _ (by have:=bx1.lt;simp;omega) (fun hh=>by have:=ho.own _ hh.symm;omega)).trans (bx1.alloc _)
  go_roundw
  case rel=>exact⟨k+1,by omega,by simp,by rw[hd.out];exact hown,hB9,bx9⟩
  case measure=>simp[intOf];omega
 obtain rfl:k=m:=by omega
 go_wp2;go_ret;exact⟨_,rfl,ho.mono (Nat.le_succ _),hb⟩
def zQj:Int->List Int->Bool
 |_,[]=>true
 |last,d::ds=>decide (0<=d) && decide (last∣d) && zQj d ds
def zYe(R C:Int)(M:List (List Int)):Bool:=decide (zBL R C M) && (zEb 0 M && zQj 1 (zGp M (min R.toNat C.toNat)))
theorem zDG(z:Int):zAQ (fun w v=>jT w v z):=fun _ _ _ e h=>h.ext (lx e)
theorem zDx(x:Value):zAQ (fun _ v=>v=x):=fun _ _ _ _ h=>h
theorem zBn(R C:Int)(M:List (List Int)):zAQ (fun w v=>zAO w v R C M):=fun _ _ _ e h=>h.below e
theorem zBa(zs:List Int):zAQ (fun w v=>zBm w v zs):=fun _ _ _ e h=>h.below e
def zGQ(N:Nat)(vs:List VS):Bool:=decide (vs.map (·.slot)).Nodup && decide (vs.map (·.op)).Nodup && (vs.map (·.slot)).all (fun s=>decide (s<N))
structure RV(W:World)(T0:Array Value)(vs:List VS)(L:Array Bool)(T:Array Value)(w:World):Prop where
 wf:zGQ T0.size vs=true
 lv:∀s∈vs,zAQ s.P
 size:T.size=T0.size
 keep:∀j,(∀s∈vs,s.slot≠j)->T[j]?=T0[j]?
 bel:Below W.heap.size W w
 val:∀s∈vs,L[s.op]?=some true->∃v,T[s.slot]?=some v/\s.P w v
section
variable {W:World} {T0:Array Value} {vs:List VS} {L:Array Bool} {T:Array Value} {w w':World}
theorem RV.start(hwf:zGQ T0.size vs=true:=by kernel_rfl)(hv:∀s∈vs,zAQ s.P:=by repeat' (first|exact zDG _|exact zDx _|exact zBn _ _ _|exact zBa _|assumption|refine xgm.2 ⟨?_,?_⟩|exact xgn _)){n:Nat}:RV W T0 vs (Array.replicate n false) T0 W.drew:=
 ⟨hwf,hv,rfl,fun _ _=>rfl,dr _,fun s _ h=>by
  rw[Array.getElem?_replicate]at h;split at h<;>simp at h⟩
abbrev zE4:=@RV.start
theorem RV.world(h:RV W T0 vs L T w)(hb:Below w.heap.size w w'):RV W T0 vs L T w':=
 ⟨h.wf,h.lv,h.size,h.keep,nx h.bel hb,fun s hs hl=>by
  obtain⟨v,h1,h2⟩:=h.val s hs hl;exact⟨v,h1,h.lv s hs _ _ _ hb h2⟩⟩
theorem RV.value{k:Nat}{v:Value}(h:RV W T0 vs L T w)(s:VS)(hs:s∈vs)(hk:s.op=k)(hP:s.P w v):RV W T0 vs (L.setIfInBounds k true) (T.setIfInBounds s.slot v) w:=by
 subst hk;have hwf:=h.wf;unfold zGQ at hwf;simp only[Bool.and_eq_true,decide_eq_true_eq,List.all_eq_true]at hwf;obtain⟨⟨w1,w2⟩,w3⟩:=hwf;have hslot:s.slot<T0.size:=w3 _ (List.mem_map.2 ⟨s,hs,rfl⟩);refine⟨h.wf,h.lv,by simp[h.size],fun j h1=>by rw[xgc (h1 s hs)];exact h.keep j h1,h.bel,?_⟩;intro t ht hl;by_cases he:t=s
 ·subst he
  exact⟨v,by rw[Array.getElem?_setIfInBounds_self_of_lt (by rw[h.size];exact hslot)],hP⟩
 have n1:t.op≠s.op:=fun e=>he (qY w2 ht hs e)
 have n2:t.slot≠s.slot:=fun e=>he (qY w1 ht hs e)
 obtain⟨u,h1,h2⟩:=h.val t ht (qU hl (zP n1));exact⟨u,by rw[xgc (zP n2)];exact h1,h2⟩
theorem RV.v{s:VS}(h:RV W T0 vs L T w)(hs:s∈vs)(hl:L[s.op]?=some true):∃v,T[s.slot]?=some v/\s.P w v:=h.val s hs hl
theorem RV.y{k:Nat}{v:Value}(h:RV W T0 vs L T w){s:VS}(hs:s∈vs)(hP:s.P w v)(hk:s.op=k:=by rfl):RV W T0 vs (L.setIfInBounds k true) (T.setIfInBounds s.slot v) w:=h.value s hs hk hP
theorem RV.cell{o:Nat}{v:Value}(h:RV W T0 vs L T w)(hc:W.cell? ⟨b,o,none⟩=some v):w.cell? ⟨b,o,none⟩=some v:=jF hc h.bel
theorem RV.e(h:RV W T0 vs L T w)(hm:E i s x∈vs)(hl:L[i]?=some true):T[s]?=some x:=by
 obtain⟨v,h1,rfl⟩:=h.val _ hm hl;exact h1
theorem RV.vi(h:RV W T0 vs L T w)(hm:EI i s z∈vs)(hl:L[i]?=some true):∃v,T[s]?=some v/\jT w v z:=h.val _ hm hl
theorem RV.k(h:RV W T0 vs L T w)(j:Nat)(h2:T0[j]?=some x)(h1:(vs.all fun s=>!(s.slot==j))=true):T[j]?=some x:=
 (h.keep j (fun s hs e=>by have:=qW.1 h1 s hs;simp[e]at this)).trans h2
theorem RV.q(h:RV W T0 vs L T w)(hm:E i s x∈vs):RV W T0 vs (L.setIfInBounds i true) (T.setIfInBounds s x) w:=h.value _ hm rfl rfl
theorem RV.n{v:Value}(h:RV W T0 vs L T w)(hm:EI i s z∈vs)(hv:jT w v z):RV W T0 vs (L.setIfInBounds i true) (T.setIfInBounds s v) w:=h.value _ hm rfl hv
theorem RV.fin{G:Array Value->World->Prop}(hL:(vs.all fun s=>L[s.op]?==some true)=true)(h:∀w,Below W.heap.size W w->∀T,Fin w vs T0 T->G T w)(T:Array Value)(w:World)(hI:RV W T0 vs L T w):G T w:=by
 refine h w hI.bel T (zRA vs (fun j hj=>hI.keep j hj) (fun s hs=>hI.val s hs ?_) hI.size ?_)
 ·have:=qW.1 hL s hs
  simpa using this
 have hw:=hI.wf;unfold zGQ at hw;simp only[Bool.and_eq_true,decide_eq_true_eq]at hw;exact hw.1.1
abbrev zIQ:=@RV.fin
end
def zHC(w:World)(v:Value)(ls:List Int):Prop:=
 ∃ao n cap,v= .slice ao n cap/\ls.length=n/\n<=cap/\cap<=9223372036854775807/\(∀z∈ls,-9223372036854775808<=z/\z<=9223372036854775807)∧
  (ls≠ []->∃(b:Nat) (cs:Array Value),ao=some ⟨b,0,none⟩/\w.heap[b]?=some (.cells cs 2 (0,0))/\∀(k:Nat) (z:Int),ls[k]?=some z->cs[k]?=some (.int .i64 z))
theorem zHC.below{v:Value}(h:zHC w v ls)(hb:Below w.heap.size w w'):zHC w' v ls:=by
 obtain⟨ao,n,cap,h1,h2,h3,h4,h5,h6⟩:=h;refine⟨ao,n,cap,h1,h2,h3,h4,h5,fun hn=>?_⟩;obtain⟨b,cs,e1,e2,e3⟩:=h6 hn;exact⟨b,cs,e1,(hb.block _ (Array.getElem?_eq_some_iff.1 e2).1).trans e2,e3⟩
theorem zHC.cell{n:Nat}(h:zHC w (.slice ao n cap) ls){k:Nat}(hk:k<ls.length):
  ∃b z,ao=some ⟨b,0,none⟩/\b<w.heap.size/\ls[k]?=some z/\w.cell? ⟨b,k,none⟩=some (.int .i64 z)/\-9223372036854775808<=z/\z<=9223372036854775807:=by
 obtain⟨ao',n',cap',h1,h2,h3,h4,h5,h6⟩:=h;injection h1 with e1 e2 e3
 subst e1;obtain⟨b,cs,e,hr,hc⟩:=h6 (by rintro rfl;simp at hk);have hz:=xga hk;have:=h5 _ (xgd hz);exact⟨b,_,e,(Array.getElem?_eq_some_iff.1 hr).1,hz,(cell_of_row w b k cs _ _ hr).trans (hc k _ hz),this.1,this.2⟩
theorem zNd(v1 v2:Value)(xs ys:List Int)(w:World)(h1:zBm w v1 xs)(h2:zBm w v2 ys):
  Calls Tryz.prog 82 #[v1,v2] w fun e w'=>e= .returned (.bool (decide (xs=ys)))/\Below w.heap.size w w':=by
 obtain⟨ao,n,cap,rfl,-⟩:=id h1;obtain⟨bo,m,bcap,rfl,-⟩:=id h2;obtain⟨ans,ha⟩:∃ans,decide (xs=ys)=ans:=⟨_,rfl⟩;have hc:∀W,zBm W (.slice ao n cap) xs->zBm W (.slice bo m bcap) ys->Calls Tryz.prog 79 #[.slice ao n cap,.slice bo m bcap] W fun e w'=>e= .returned (.bool ans)/\Below W.heap.size W w':=fun W k1 k2=>by
  have:=zIy _ _ xs ys W k1 k2;rwa[ha]at this
 rw[ha];clear ha;go_enter Tryz.func82,Tryz.ntmps82;go_wp2_with fail
 refine(hc w h1 h2).mono ?_;rintro e w1 ⟨rfl,hb⟩;go_wp2;go_ret;exact⟨rfl,hb⟩
end Go.Proofs.YtkidaebmhlijlaaGreat
