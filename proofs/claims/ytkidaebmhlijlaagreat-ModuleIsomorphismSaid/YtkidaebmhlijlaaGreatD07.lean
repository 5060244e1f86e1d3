/- Joined. -/
import Derived.StillTailTactics
import Derived.Test.YtkidaebmhlijlaaGreatD04
import Derived.Test.YtkidaebmhlijlaaGreatD06
set_option linter.unusedVariables false
set_option linter.unusedSimpArgs false
set_option linter.unusedSectionVars false
set_option maxHeartbeats 16000000
set_option maxRecDepth 100000
variable{cs:Array Go.Value}{R a z:Int}{M rs:List (List Int)}{ls zs:List Int}{bs:List Nat}{xs:List Go.Value}{C b base base' cap i k n r:Nat}{o:Go.Oper}{ao:Option Go.Addr}{T t:Go.TypeId}{A c0 c1 x:Go.Value}{w w' wr:Go.World}
namespace Go.Proofs.YtkidaebmhlijlaaGreat
open Go.RowKit
theorem zF4(w:World):jY w (.agg #[.bool false,.slice none 0 0]) 0:=
 ⟨false,none,0,0,[],rfl,rfl,xgf _,oM,yB.nil _ _,zBK.nil,rfl,fun _=>rfl⟩
def qAJ(w:World)(a b:Nat)(e:Ending)(w':World):Prop:=
 ∃v1 v2,e= .returned (.tuple #[v1,v2])/\jY w' v1 ((a/b:Nat):Int)/\jY w' v2 ((a%b:Nat):Int)/\BWq w w'
def zUN:Nat:=1099511627774
theorem zEV:zUN=1099511627774:=rfl
structure Smd(z:Int):Prop where
 lt:z.natAbs<B32^zUN
theorem Smd.sm(h:Smd z):Sm z:=zJ h.lt (zGf (by rw[zEV,zC0];omega))
theorem Smd.mono{y:Int}(h:Smd z)(hy:y.natAbs<=z.natAbs):Smd y:=⟨zK hy h.lt⟩
theorem zKN(a b:Nat)(h:a+1<=b):B32^a<B32^b:=by
 have h1:B32^(a+1)<=B32^b:=zGf h;rw[qI]at h1;have h2:0<B32^a:=qR dE;have h3:B32^a*2<=B32^a*B32:=zH _ dE;omega
theorem Smd.sm1{y:Int}(h:Smd z)(hy:y.natAbs<=z.natAbs+1):Sm y:=
 zK hy (zK h.lt (zKN zUN LIM (by rw[zEV,zC0];omega)))

def zCQ(w:World)(b:Nat)(z:Int):Prop:=∃n a l c,Blk w b 43 #[.bool n,.slice a l c]/\jY w (.agg #[.bool n,.slice a l c]) z
theorem zCQ.mk{y:Value}(h:Blk w b 43 #[x,y])(hv:jY w (.agg #[x,y]) z):zCQ w b z:=by
 obtain⟨n,a,l,c,xs,e,h2⟩:=id hv;injection e with e
 simp only[Array.mk.injEq,List.cons.injEq,and_true]at e;obtain⟨rfl,rfl⟩:=e;exact⟨_,_,_,_,h,hv⟩
theorem zCQ.old(h:zCQ w b z)(e:w'.heap[b]?=w.heap[b]?)(x:zBw w w'):zCQ w' b z:=by
 obtain⟨n,a,l,c,h1,h2⟩:=h;exact⟨n,a,l,c,e.trans h1,h2.ext x⟩
theorem zCQ.lt(h:zCQ w b z):b<w.heap.size:=by
 obtain⟨n,a,l,c,h1,h2⟩:=h;exact h1.lt
theorem zCQ.below(h:zCQ w b z)(hb:BWq w w'):zCQ w' b z:=h.old (hb.block _ h.lt) (lx hb)
theorem zCQ.far(h:zCQ w b z)(hne:b≠r)(hr:Blk w r t cs)(ht:t≠tU)(x y:Value):zCQ ((w.setCell ⟨r,0,none⟩ x).setCell ⟨r,1,none⟩ y) b z:=
 h.old ((yF _ ⟨r,1,none⟩ _ b hne).trans (yF _ ⟨r,0,none⟩ _ b hne)) (hr.lext2 ht x y)
theorem zCQ.put(hr:Blk w r 43 #[c0,c1]){y:Value}(hv:jY w (.agg #[x,y]) z):zCQ ((w.setCell ⟨r,0,none⟩ x).setCell ⟨r,1,none⟩ y) r z:=
 zCQ.mk (hr.put2 _ _) (hv.ext (hr.lext2 dE _ _))
structure zOx(w wr:World)(a b:Int):Prop where
 a:zCQ wr w.heap.size a
 b:zCQ wr (w.heap.size+1) b
 r1:Blk wr (w.heap.size+1+1) 43 #[.bool false,.slice none 0 0]
 r2:Blk wr (w.heap.size+1+1+1) 43 #[.bool false,.slice none 0 0]
 r3:Blk wr (w.heap.size+1+1+1+1) 43 #[.bool false,.slice none 0 0]
theorem zOx.old{b:Int}(h:zOx w wr a b)(e:∀k,k<=w.heap.size+1+1+1+1->w'.heap[k]?=wr.heap[k]?)(x:zBw wr w'):zOx w w' a b:=
 ⟨h.a.old (e _ oM) x,h.b.old (e _ oM) x,(e _ oM).trans h.r1,(e _ oM).trans h.r2,(e _ oM).trans h.r3⟩
theorem zOx.below{b:Int}(h:zOx w wr a b)(hb:BWq wr w'):zOx w w' a b:=
 h.old (fun k hk=>hb.block k (by have:=h.r3.lt;omega)) (lx hb)
structure zWe(a b:Int)(x y:Nat)(σ:Bool)(p p' r r':Nat):Prop where
 hg:Nat.gcd x y=Int.gcd a b
 hx:(x:Int)=sgn σ p*(a.natAbs:Int)+sgn (!σ) r*(b.natAbs:Int)
 hy:(y:Int)=sgn (!σ) p'*(a.natAbs:Int)+sgn σ r'*(b.natAbs:Int)
 hb:p'*x+p*y=b.natAbs
 ha:r'*x+r*y=a.natAbs
 pb:p<=max 1 b.natAbs
 pb':p'<=max 1 b.natAbs
 rb:r<=max 1 a.natAbs
 rb':r'<=max 1 a.natAbs
 yb:y<=b.natAbs
 xb:x<=max a.natAbs b.natAbs
theorem zWe.start(a b:Int):zWe a b a.natAbs b.natAbs false 1 0 0 1:=
 ⟨rfl,by simp,by simp,by simp,by simp,oM,oM,oM,oM,xgf _,oM⟩
theorem zGg(σ:Bool)(p q p':Nat):sgn σ p-(q:Int)*sgn (!σ) p'=sgn σ (p+q*p'):=by
 have e:((q*p':Nat):Int)=(q:Int)*(p':Int):=yS _ _;cases σ
 ·show(p:Int)-(q:Int)*(-(p':Int))=((p+q*p':Nat):Int)
  rw[zAN,e,zC6];omega
 show-(p:Int)-(q:Int)*((p':Nat):Int)=-((p+q*p':Nat):Int);rw[zAN,e];omega
theorem zWe.step{b:Int}{x y:Nat}{σ:Bool}{p p' r':Nat}(h:zWe a b x y σ p p' r r')(hy:0<y):
  zWe a b y (x%y) (!σ) p' (p+x/y*p') r' (r+x/y*r'):=by
 have hd:=zAA x y;have hm:=yH x hy;have e1:(p+x/y*p')*y+p'*(x%y)=b.natAbs:=by
  rw[<-h.hb];have:p'*x=p'*(y*(x/y))+p'*(x%y):=by rw[<-zAU,hd]
  rw[this,zZ,zN (x/y) p',zC,zN (x/y) y];omega
 have e2:(r+x/y*r')*y+r'*(x%y)=a.natAbs:=by
  rw[<-h.ha];have:r'*x=r'*(y*(x/y))+r'*(x%y):=by rw[<-zAU,hd]
  rw[this,zZ,zN (x/y) r',zC,zN (x/y) y];omega
 have b1:p+x/y*p'<=b.natAbs:=by
  have:=zO (p+x/y*p') hy;omega
 have b2:r+x/y*r'<=a.natAbs:=by
  have:=zO (r+x/y*r') hy;omega
 refine⟨?_,by rw[zCG];exact h.hy,?_,e1,e2,h.pb',oM,h.rb',oM,?_,by have:=h.yb;omega⟩;rw[<-h.hg,Nat.gcd_comm x y,Nat.gcd_rec y x,Nat.gcd_comm]
 ·rw[zCG]
  have hq:((x%y:Nat):Int)=(x:Int)-((x/y:Nat):Int)*(y:Int):=by
   have:((y*(x/y)+x%y:Nat):Int)=(x:Int):=by rw[hd]
   rw[zAN,yS,qH]at this;omega
  rw[hq,h.hx,h.hy,<-zGg,<-zGg (!σ) r (x/y) r',zCG];simp only[Int.sub_mul,Int.mul_add,Int.mul_assoc];omega
 have:=h.yb;omega
def zYE(w:World)(a b:Int)(e:Ending)(w':World):Prop:=
 ∃v1 v2 v3 s t,e= .returned (.tuple #[v1,v2,v3])/\jY w' v1 ((Int.gcd a b:Nat):Int)/\jY w' v2 s/\jY w' v3 t/\s*a+t*b=((Int.gcd a b:Nat):Int)∧
  s.natAbs<=max 1 b.natAbs/\t.natAbs<=max 1 a.natAbs/\BWq w w'
theorem zSK(v1 v2:Value)(a b:Int)(w:World)(h1:jY w v1 a)(h2:jY w v2 b)(s1:Smd a)(s2:Smd b):
  CPq 187 #[v1,v2] w (zYE w a b):=by
 obtain⟨neg1,ao1,n1,cap1,xs,rfl,i1⟩:=id h1;obtain⟨neg2,ao2,n2,cap2,ys,rfl,i2⟩:=id h2;have HS1:=xgw s1;have HS2:=xgw s2;clear s1 s2 i1 i2;go_enter Tryz.func187,Tryz.ntmps187;go_upto_region 1 with(fail)
 refine zD ?_;intro W0 hW0;obtain⟨hB0,bx1,bx2,br1,br2,br3,hs0⟩:=zY2 hW0;have h1:=h1.ext (lx hB0);have h2:=h2.ext (lx hB0);have hk:zOx w W0 a b:=⟨zCQ.mk bx1 h1,zCQ.mk bx2 h2,br1,br2,br3⟩;obtain⟨c1,c2,c3,c4⟩:=bx1.two;obtain⟨d1,d2,d3,d4⟩:=bx2.two;have SA:=HS1.out.sm;have SB:=HS2.out.sm;refine zBl [pcI 1 (((a.natAbs:Nat):Int)),pcI 3 (((b.natAbs:Nat):Int)),pbA 4 43 2,pbA 5 43 2,pbS 6 4 43 2,pbS 7 5 43 2] ?_;refine sRd ?_;refine sRc (fun wS hI Gk hG=>?_) (fun va1 hv=>?_)
 ·go_simp
  exact ck hG (zRj _ a _ (h1.ext hI.lext).weak SA)
 obtain⟨xa4,ya4,rfl,qa4⟩:=zL7 hv;clear hv;refine sRd ?_;refine sRc (fun wS hI Gk hG=>?_) (fun va3 hv=>?_)
 ·go_simp
  exact ck hG (zRj _ b _ (h2.ext hI.lext).weak SB)
 obtain⟨xa5,ya5,rfl,qa5⟩:=zL7 hv;clear hv;refine sRa (cs:=#[.bool false,.slice none 0 0]) fun ca4 ga4=>?_
 refine sRa (cs:=#[.bool false,.slice none 0 0]) fun ca5 ga5=>?_
 refine sRs ca4 (.agg #[xa4,ya4]) ?_ qa4;refine sRs ca5 (.agg #[xa5,ya5]) ?_ qa5;refine sRb ?_;simp only[FA,FC,FN,ptr,List.nil_append,List.cons_append,Act.put,xgh,xgi,xgj];intro W1 hbW1 ha1 ha3 ka4 ka5 na4 na5;replace ka4:Blk W1 ca4 43 #[xa4,ya4]:=ka4 _ rfl;have ia4:=ha1;replace ka5:Blk W1 ca5 43 #[xa5,ya5]:=ka5 _ rfl;have ia5:=ha3;have na4_5:ca4≠ca5:=na4 (5,ca5) sI;clear na4 na5;have hk:=hk.below hbW1;have hBt:=nx hB0 hbW1;have z7:=zCQ.mk ka4 ia4;have z8:=zCQ.mk ka5 ia5;have l7:=z7.lt;have l8:=z8.lt;clear c1 c2 c3 c4 d1 d2 d3 d4 SA SB h1 h2 bx1 bx2 br1 br2 br3 ha1 ha3 ka4 ia4 ka5 ia5 hW0;go_wp2_with fail
 refine(zGz 1 W1 oM oM).mono ?_;rintro e w2 ⟨v,rfl,hv,hb2⟩;obtain⟨an,aa,al,ac,ax,rfl,ha⟩:=id hv;have HA:=xgw ha;clear ha;go_wp2_with fail
 refine(zGz 0 w2 oM oM).mono ?_;rintro e w3 ⟨u,rfl,hu,hb3⟩;obtain⟨bn,ba,bl,bc,bx,rfl,hb⟩:=id hu;have HB:=xgw hb;clear hb;go_upto_region 3 with(fail)
 refine zD ?_;intro W4 hW4;obtain⟨hB4,T9,T10,hs4⟩:=zAj hW4;have hk:=((hk.below hb2).below hb3).below hB4;have hBt:=nx (nx (nx hBt hb2) hb3) hB4;have z7:=((z7.below hb2).below hb3).below hB4;have z8:=((z8.below hb2).below hb3).below hB4;have z9:=zCQ.mk T9 (hv.ext ((lx hb3).trans (lx hB4)));have z10:=zCQ.mk T10 (hu.ext (lx hB4));have hs1':=hb2.size;have hs2':=hb3.size;have hs3':=hbW1.size;clear hv hu hb2 hb3 hB4 T9 T10 hW4;go_wp2_with fail
 refine(zGz 0 W4 oM oM).mono ?_;rintro e w5 ⟨v,rfl,hv,hb2⟩;obtain⟨cn,ca,cl,cc,cx,rfl,ha⟩:=id hv;have HA':=xgw ha;clear ha;go_wp2_with fail
 refine(zGz 1 w5 oM oM).mono ?_;rintro e w6 ⟨u,rfl,hu,hb3⟩;obtain⟨dn,da,dl,dc,dx,rfl,hb⟩:=id hu;have HB':=xgw hb;clear hb;go_upto_block 0 with(fail)
 refine zD ?_;intro W7 hW7;obtain⟨hB7,T11,T12,hs7⟩:=zAj hW7;have hk:=((hk.below hb2).below hb3).below hB7;have hBt:=nx (nx (nx hBt hb2) hb3) hB7;have z7:=((z7.below hb2).below hb3).below hB7;have z8:=((z8.below hb2).below hb3).below hB7;have z9:=((z9.below hb2).below hb3).below hB7;have z10:=((z10.below hb2).below hb3).below hB7;have z11:=zCQ.mk T11 (hv.ext ((lx hb3).trans (lx hB7)));have z12:=zCQ.mk T12 (hu.ext (lx hB7));have hs5':=hb2.size;have hs6':=hb3.size;clear hv hu hb2 hb3 hB7 T11 T12 hW7;obtain⟨f,hf⟩:=zU1;have lt8:=z8.lt;have lt7:=z7.lt;have q7:w.heap.size+1+1+1+1<ca4:=oM;have q8:w.heap.size+1+1+1+1<ca5:=oM;have q79:ca4<w3.heap.size:=oM;have q89:ca5<w3.heap.size:=oM;have q11:w3.heap.size+1<w6.heap.size:=oM;clear lt7 lt8 l7 l8 hs0 hs4 hs5' hs6' hs1' hs2' hs3' ga4 ga5;go_wp2;go_loopw [] (fun wr=>∃(x y:Nat) (σ:Bool) (p p' r r':Nat),zWe a b x y σ p p' r r'/\BWq w wr/\zOx w wr a b/\zCQ wr ca4 x/\zCQ wr ca5 y/\zCQ wr w3.heap.size (sgn σ p)/\zCQ wr (w3.heap.size+1) (sgn (!σ) p')∧
  zCQ wr w6.heap.size (sgn (!σ) r)/\zCQ wr (w6.heap.size+1) (sgn σ r')) (fun wr=>(f wr ca5).natAbs)
 case atStart=>exact⟨_,_,_,_,_,_,_,zWe.start a b,hBt,hk,z7,z8,z9,z10,z11,z12⟩
 obtain⟨x,y,σ,p,p',r,r',hN,hBt,hk,z7,z8,z9,z10,z11,z12⟩:=hrel;have HN:=xgw hN;clear hN;have lt12:=z12.lt;obtain⟨yn,ya,yl,yc,k8,i8⟩:=z8;have hfr:=hf _ _ _ _ _ k8 i8;obtain⟨d1,d2,d3,d4⟩:=k8.two;go_wp2_with fail
 refine(zAi _ _ wr i8.weak).mono ?_;rintro e wa ⟨rfl,hba⟩;have k8:=k8.below hba;have i8:=i8.ext (lx hba);have hk:=hk.below hba;have hBt:=nx hBt hba;have z7:=z7.below hba;have z9:=z9.below hba;have z10:=z10.below hba;have z11:=z11.below hba;have z12:=z12.below hba;have hsa:=hba.size;clear d1 d2 d3 d4 hba;obtain⟨d1,d2,d3,d4⟩:=k8.two;obtain⟨xn,xa,xl,xc,k7,i7⟩:=z7;obtain⟨c1,c2,c3,c4⟩:=k7.two;by_cases h0:y=0
 ·have hc:zAt (y:Int) 0=0:=by subst h0;rfl
  rw[hc];have hG:(x:Int)=((Int.gcd a b:Nat):Int):=by
   have:=HN.out.hg;rw[h0,Nat.gcd_zero_right]at this;rw[this]
  have HG:=xgw hG;clear hG hfr lt12;go_wp2_with fail
  refine(zAi _ _ wa i7.weak).mono ?_;rintro e wb ⟨rfl,hb⟩;have k7:=k7.below hb;have i7:=i7.ext (lx hb);have hk:=hk.below hb;have hBt:=nx hBt hb;have z9:=z9.below hb;have z11:=z11.below hb;clear c1 c2 c3 c4 d1 d2 d3 d4 hb z10 z12 k8 i8 hc hsa;by_cases hx0:x=0
  ·have hc:zAt (x:Int) 0=0:=by subst hx0;rfl
   rw[hc];have e1:=hk.r1.two;obtain⟨f1,f2,f3,f4⟩:=hk.r2.two;have g1:=hk.r3.two;go_wp2_with fail
   refine bodyPost_ret (zEd rfl _ rfl rfl rfl ((((hk.r1.put2 _ _).far oM _ _).far oM _ _).far oM _ _|>.far oM _ _) ((((hk.r2.far oM _ _).far oM _ _).put2 _ _).far oM _ _|>.far oM _ _) ((((hk.r3.far oM _ _).far oM _ _).far oM _ _).far oM _ _|>.put2 _ _) rfl rfl rfl) rfl ?_;refine⟨_,_,_,0,0,rfl,?_,zF4 _,zF4 _,?_,oM,oM,yJ (yJ (yJ (yJ (yJ (yJ hBt oM 0 _) oM 1 _) oM 0 _) oM 1 _) oM 0 _) oM 1 _⟩;rw[<-HG.out,hx0];exact zF4 _;rw[<-HG.out,hx0];simp
  have hc:zAt (x:Int) 0=1:=by unfold zAt;rw[if_neg oM,if_pos oM]
  rw[hc];obtain⟨an,aa,al,ac,ka,ia⟩:=hk.a;obtain⟨c1,c2,c3,c4⟩:=ka.two;go_wp2_with fail
  refine(zAi _ _ wb ia.weak).mono ?_;rintro e wc ⟨rfl,hb⟩;have k7:=k7.below hb;have i7:=i7.ext (lx hb);have hk:=hk.below hb;have hBt:=nx hBt hb;have z9:=z9.below hb;have z11:=z11.below hb;clear c1 c2 c3 c4 hb ka ia hc;have hsum:sgn σ p*(a.natAbs:Int)+sgn (!σ) r*(b.natAbs:Int)=((Int.gcd a b:Nat):Int):=by rw[<-HG.out,HN.out.hx]
  have pb:=HN.out.pb;have rb:=HN.out.rb;have SP:jZ (Sm (sgn σ p)):=⟨HS2.out.sm1 (by rw[zBR];omega)⟩;have SR:jZ (Sm (sgn (!σ) r)):=⟨HS1.out.sm1 (by rw[zBR];omega)⟩;obtain⟨s0,hs0⟩:∃s0,sgn σ p=s0:=⟨_,rfl⟩;obtain⟨t0,ht0⟩:∃t0,sgn (!σ) r=t0:=⟨_,rfl⟩;have ps0:s0.natAbs<=max 1 b.natAbs:=by rw[<-hs0,zBR];exact pb
  have rt0:t0.natAbs<=max 1 a.natAbs:=by rw[<-ht0,zBR];exact rb
  rw[hs0]at z9 hsum SP;rw[ht0]at z11 hsum SR;clear hs0 ht0 pb rb;by_cases ha0:a<0;case' pos=>
   have hc:zAt a 0=-1:=by unfold zAt;rw[if_pos ha0]
   have hsum:-s0*a+t0*(b.natAbs:Int)=((Int.gcd a b:Nat):Int):=by
    rw[<-hsum];have:(a.natAbs:Int)=-a:=oM;rw[this,zDI s0 a]
   rw[hc];obtain⟨sn,sa,sl,sc,ks,is⟩:=z9;obtain⟨c1,c2,c3,c4⟩:=ks.two;go_wp2_with fail
   refine(zBY _ s0 wc is.weak SP.out).mono ?_;rintro e wd ⟨v,rfl,hv,hb⟩;obtain⟨vn,va,vl,vc,vx,rfl,hv'⟩:=id hv;have HV:=xgw hv';clear hv' c1 c2 c3 c4;have ks:=ks.below hb;have k7:=k7.below hb;have i7:=i7.ext (lx hb);have hk:=hk.below hb;have hBt:=nx hBt hb;have z11:=z11.below hb;obtain⟨c1,c2,c3,c4⟩:=ks.two;go_upto_region 13 with(fail)
   refine zD ?_;intro We hWe;have z9:zCQ We w3.heap.size (-s0):=by rw[hWe.out];exact zCQ.put ks hv
   have z11:zCQ We w6.heap.size t0:=by rw[hWe.out];exact z11.far oM ks dE _ _
   have k7':=zAk hWe ((k7.far oM _ _).far oM _ _);have hx':zBw wd We:=by rw[hWe.out];exact ks.lext2 dE _ _
   have i7:=i7.ext hx';have hk:zOx w We a b:=hk.old (fun k hk0=>by rw[hWe.out];exact(yF _ ⟨_,1,none⟩ _ k (by show k≠w3.heap.size;omega)).trans (yF _ ⟨_,0,none⟩ _ k (by show k≠w3.heap.size;omega))) hx';have k7:=k7';have hBt:BWq w We:=by rw[hWe.out];exact yJ (yJ hBt oM 0 _) oM 1 _
   clear c1 c2 c3 c4 hWe hb ks k7' hx' hc is hv;have ps0:(-s0).natAbs<=max 1 b.natAbs:=by rw[zR];exact ps0
   obtain⟨s1,hs1⟩:∃s1,-s0=s1:=⟨_,rfl⟩;rw[hs1]at z9 hsum ps0;clear hs1
  case' neg=>
   have hc:¬ zAt a 0<0:=by unfold zAt;rw[if_neg ha0];split<;>omega
   obtain⟨k,hkk⟩:∃k,zAt a 0=k:=⟨_,rfl⟩;rw[hkk]at hc ⊢
   have hsum:s0*a+t0*(b.natAbs:Int)=((Int.gcd a b:Nat):Int):=by
    rw[<-hsum];have:(a.natAbs:Int)=a:=oM;rw[this]
   clear hkk;go_upto_region 13 with(fail)
   obtain⟨s1,hs1⟩:∃s1,s0=s1:=⟨_,rfl⟩;rw[hs1]at z9 hsum ps0;clear hs1;obtain⟨We,hE⟩:∃W,W=wc:=⟨_,rfl⟩;subst hE
  all_goals
   obtain⟨bn',ba',bl',bc',kb,ib⟩:=hk.b;obtain⟨c1,c2,c3,c4⟩:=kb.two;go_wp2_with fail
   refine(zAi _ _ We ib.weak).mono ?_;rintro e wf ⟨rfl,hb⟩;have k7:=k7.below hb;have i7:=i7.ext (lx hb);have hk:=hk.below hb;have hBt:=nx hBt hb;have z9:=z9.below hb;have z11:=z11.below hb;clear c1 c2 c3 c4 hb kb ib;by_cases hb0:b<0;case' pos=>
    have hc:zAt b 0=-1:=by unfold zAt;rw[if_pos hb0]
    have hsum:s1*a+-t0*b=((Int.gcd a b:Nat):Int):=by
     rw[<-hsum];have:(b.natAbs:Int)=-b:=oM;rw[this,zDI t0 b]
    rw[hc];obtain⟨tn,ta,tl,tc,kt,it⟩:=z11;obtain⟨c1,c2,c3,c4⟩:=kt.two;go_wp2_with fail
    refine(zBY _ t0 wf it.weak SR.out).mono ?_;rintro e wg ⟨v,rfl,hv,hb⟩;obtain⟨un,ua,ul,uc,ux,rfl,hv'⟩:=id hv;have HU:=xgw hv';clear hv' c1 c2 c3 c4;have kt:=kt.below hb;have k7:=k7.below hb;have i7:=i7.ext (lx hb);have hk:=hk.below hb;have hBt:=nx hBt hb;have z9:=z9.below hb;obtain⟨c1,c2,c3,c4⟩:=kt.two;go_upto_region 15 with(fail)
    refine zD ?_;intro Wh hWh;have z11:zCQ Wh w6.heap.size (-t0):=by rw[hWh.out];exact zCQ.put kt hv
    have z9:zCQ Wh w3.heap.size s1:=by rw[hWh.out];exact z9.far oM kt dE _ _
    have k7':=zAk hWh ((k7.far oM _ _).far oM _ _);have hx':zBw wg Wh:=by rw[hWh.out];exact kt.lext2 dE _ _
    have i7:=i7.ext hx';have hk:zOx w Wh a b:=hk.old (fun k hk0=>by rw[hWh.out];exact(yF _ ⟨_,1,none⟩ _ k (by show k≠w6.heap.size;omega)).trans (yF _ ⟨_,0,none⟩ _ k (by show k≠w6.heap.size;omega))) hx';have k7:=k7';have hBt:BWq w Wh:=by rw[hWh.out];exact yJ (yJ hBt oM 0 _) oM 1 _
    have rt0:(-t0).natAbs<=max 1 a.natAbs:=by rw[zR];exact rt0
    clear c1 c2 c3 c4 hWh hb kt k7' hx' hc it hv;obtain⟨t1,ht1⟩:∃t1,-t0=t1:=⟨_,rfl⟩;rw[ht1]at z11 hsum rt0;clear ht1
   case' neg=>
    have hc:¬ zAt b 0<0:=by unfold zAt;rw[if_neg hb0];split<;>omega
    obtain⟨k,hkk⟩:∃k,zAt b 0=k:=⟨_,rfl⟩;rw[hkk]at hc ⊢
    have hsum:s1*a+t0*b=((Int.gcd a b:Nat):Int):=by
     rw[<-hsum];have:(b.natAbs:Int)=b:=oM;rw[this]
    clear hkk;go_upto_region 15 with(fail)
    obtain⟨t1,ht1⟩:∃t1,t0=t1:=⟨_,rfl⟩;rw[ht1]at z11 hsum rt0;clear ht1;obtain⟨Wh,hE⟩:∃W,W=wf:=⟨_,rfl⟩;subst hE
   all_goals
    obtain⟨sn,sa,sl,sc,ks,is⟩:=z9;obtain⟨tn,ta,tl,tc,kt,it⟩:=z11;obtain⟨c1,c2,c3,c4⟩:=k7.two;obtain⟨d1,d2,d3,d4⟩:=ks.two;obtain⟨f1,f2,f3,f4⟩:=kt.two;have lkt:=kt.lt;have kr1:=hk.r1;have kr2:=hk.r2;have kr3:=hk.r3;refine zJ7 [pcD 0 [] (fun _ v=>v= .agg #[.bool xn,.slice xa xl xc]),pcD 1 [] (fun _ v=>v= .agg #[.bool sn,.slice sa sl sc]),pcD 2 [] (fun _ v=>v= .agg #[.bool tn,.slice ta tl tc]),pbE 3 (w.heap.size+1+1) 43 2,pbE 4 (w.heap.size+1+1+1) 43 2,pbE 5 (w.heap.size+1+1+1+1) 43 2] ?_;refine sRg (fun wS hI Gk hG=>?_) (fun _ hv=>?_)
    ·have cc0:=hI.cell c1
     have cc1:=hI.cell c2;go_simp;exact⟨hG _ _ rfl,zA _ _⟩
    obtain⟨_,-,rfl⟩:=hv;refine sRg (fun wS hI Gk hG=>?_) (fun _ hv=>?_)
    ·have cc0:=hI.cell d1
     have cc1:=hI.cell d2;go_simp;exact⟨hG _ _ rfl,zA _ _⟩
    obtain⟨_,-,rfl⟩:=hv;refine sRg (fun wS hI Gk hG=>?_) (fun _ hv=>?_)
    ·have cc0:=hI.cell f1
     have cc1:=hI.cell f2;go_simp;exact⟨hG _ _ rfl,zA _ _⟩
    obtain⟨_,-,rfl⟩:=hv;refine sRx (.agg #[.bool xn,.slice xa xl xc]) ?_;refine sRx (.agg #[.bool sn,.slice sa sl sc]) ?_;refine sRx (.agg #[.bool tn,.slice ta tl tc]) ?_;refine sRb ?_;simp only[FA,FC,FN,ptr,List.nil_append,List.cons_append,Act.put,xgh,xgi,xgj];intro Wz hRWz _ _ _ kz3 kz4 kz5;obtain⟨exz3,eyz3,ebz3,eiz3⟩:∃xq yq,Blk Wz (w.heap.size+1+1) 43 #[xq,yq]/\jY Wz (.agg #[xq,yq]) ((x:Int)):=⟨_,_,kz3 _ rfl,jY.ext i7 hRWz.lext⟩;obtain⟨exz4,eyz4,ebz4,eiz4⟩:∃xq yq,Blk Wz (w.heap.size+1+1+1) 43 #[xq,yq]/\jY Wz (.agg #[xq,yq]) (s1):=⟨_,_,kz4 _ rfl,jY.ext is hRWz.lext⟩;obtain⟨exz5,eyz5,ebz5,eiz5⟩:∃xq yq,Blk Wz (w.heap.size+1+1+1+1) 43 #[xq,yq]/\jY Wz (.agg #[xq,yq]) (t1):=⟨_,_,kz5 _ rfl,jY.ext it hRWz.lext⟩;clear kz3 kz4 kz5;have hlWz:=hRWz.lext;have hbWz:=hRWz.bel (w.heap.size);have holdWz:∀k,k<Wh.heap.size->(∀s∈ [((w.heap.size+1+1:Nat),0),((w.heap.size+1+1+1:Nat),0),((w.heap.size+1+1+1+1:Nat),0)],s.1≠k)->Wz.heap[k]?=Wh.heap[k]?:=fun k hk hn=>hRWz.old k oM (by simp only[xgm]at hn;repeat' (first|exact trivial|omega|refine⟨?_,?_⟩))
    go_wp2_with fail
    refine bodyPost_ret (zEd rfl _ rfl rfl rfl ebz3 ebz4 ebz5 rfl rfl rfl) rfl ⟨_,_,_,s1,t1,rfl,HG.out ▸ eiz3,eiz4,eiz5,hsum,ps0,rt0,hBt.trans hbWz⟩
 have hy0:0<y:=Nat.pos_of_ne_zero h0;have hc:zAt (y:Int) 0=1:=by unfold zAt;rw[if_neg oM,if_pos oM]
 rw[hc];have hy0':(y:Int)≠0:=oM;have SX:Sm (x:Int):=by
  have hxb:=HN.out.xb;rcases Nat.le_total a.natAbs b.natAbs with hab|hab
  exact HS2.out.sm.mono (by rw[zAn];omega);exact HS1.out.sm.mono (by rw[zAn];omega)
 have SY:Sm (y:Int):=HS2.out.sm.mono (by have:=HN.out.yb;rw[zAn];exact this);have SX':=xgv SX;have SY':=xgv SY;clear SX SY;go_wp2_with fail
 refine(zDt _ _ (x:Int) (y:Int) wa i7.weak i8.weak SX'.out SY'.out hy0').mono ?_;rintro e w4 ⟨q0,r0,rfl,hq,hr,hb4⟩;obtain⟨qn,qa,ql,qc,qx,rfl,hq'⟩:=id hq;obtain⟨rn,ra,rl,rc,rx,rfl,hr'⟩:=id hr;have HQ':=xgw hq';have HR':=xgw hr';clear hq' hr' hc hy0';go_upto_region 6 with(fail)
 refine zD ?_;intro W5 hW5;obtain⟨hB5,T13,T14,hs5⟩:=zAj hW5;have k7:=(k7.below hb4).below hB5;have k8:=(k8.below hb4).below hB5;have i8:=(i8.ext (lx hb4)).ext (lx hB5);have hk:=(hk.below hb4).below hB5;have z9:=(z9.below hb4).below hB5;have z10:=(z10.below hb4).below hB5;have z11:=(z11.below hb4).below hB5;have z12:=(z12.below hb4).below hB5;have hBt:=nx (nx hBt hb4) hB5;have hq:=hq.ext (lx hB5);have hr:=hr.ext (lx hB5);have hs4:=hb4.size;have l13:w6.heap.size+1<w4.heap.size:=oM;clear c1 c2 c3 c4 d1 d2 d3 d4 hW5 hb4 hB5 hsa hs4 lt12;obtain⟨d1,d2,d3,d4⟩:=k8.two;obtain⟨f1,f2,f3,f4⟩:=T14.two;refine zJ7 [pcD 1 [] (fun _ v=>v= .agg #[.bool rn,.slice ra rl rc]),pbE 2 (ca4) 43 2,pbE 3 (ca5) 43 2] ?_;refine sRd ?_;refine sRg (fun wS hI Gk hG=>?_) (fun _ hv=>?_)
 ·have cc0:=hI.cell f1
  have cc1:=hI.cell f2;go_simp;exact⟨hG _ _ rfl,zA _ _⟩
 obtain⟨_,-,rfl⟩:=hv;refine sRx (.agg #[.bool yn,.slice ya yl yc]) ?_;refine sRx (.agg #[.bool rn,.slice ra rl rc]) ?_;refine sRb ?_;simp only[FA,FC,FN,ptr,List.nil_append,List.cons_append,Act.put,xgh,xgi,xgj];intro W8 hRW8 _ ka2 ka3;obtain⟨exa2,eya2,eba2,eia2⟩:∃xq yq,Blk W8 (ca4) 43 #[xq,yq]/\jY W8 (.agg #[xq,yq]) ((y:Int)):=⟨_,_,ka2 _ rfl,jY.ext i8 hRW8.lext⟩;obtain⟨exa3,eya3,eba3,eia3⟩:∃xq yq,Blk W8 (ca5) 43 #[xq,yq]/\jY W8 (.agg #[xq,yq]) (((x:Int)%(y:Int))):=⟨_,_,ka3 _ rfl,jY.ext hr hRW8.lext⟩;clear ka2 ka3;have hlW8:=hRW8.lext;have hbW8:=hRW8.bel (w.heap.size);have holdW8:∀k,k<W5.heap.size->(∀s∈ [((ca4:Nat),0),((ca5:Nat),0)],s.1≠k)->W8.heap[k]?=W5.heap[k]?:=fun k hk hn=>hRW8.old k oM (by simp only[xgm]at hn;repeat' (first|exact trivial|omega|refine⟨?_,?_⟩))
 have hk:zOx w W8 a b:=hk.old (fun k hk0=>holdW8 _ oM aU) hlW8;have z9:=z9.old (holdW8 _ oM aU) hlW8;have z10:=z10.old (holdW8 _ oM aU) hlW8;have z11:=z11.old (holdW8 _ oM aU) hlW8;have z12:=z12.old (holdW8 _ oM aU) hlW8;have z13:=(zCQ.mk T13 hq).old (holdW8 _ oM aU) hlW8;have z7:=zCQ.mk eba2 eia2;have z8:=zCQ.mk eba3 eia3;have hBt:=hBt.trans hbW8;have eq1:(x:Int)/(y:Int)=((x/y:Nat):Int):=rfl;rw[eq1]at z13;have hst:=HN.out.step hy0;have SP:jZ (Sm (sgn σ p)):=⟨HS2.out.sm1 (by have:=HN.out.pb;rw[zBR];omega)⟩;have SP':jZ (Sm (sgn (!σ) p')):=⟨HS2.out.sm1 (by have:=HN.out.pb';rw[zBR];omega)⟩;have SR:jZ (Sm (sgn (!σ) r)):=⟨HS1.out.sm1 (by have:=HN.out.rb;rw[zBR];omega)⟩;have SR':jZ (Sm (sgn σ r')):=⟨HS1.out.sm1 (by have:=HN.out.rb';rw[zBR];omega)⟩;have SQ:jZ (Sm ((x/y:Nat):Int)):=⟨SX'.out.mono (by simp only[Int.natAbs_natCast];exact zDY _ _)⟩;have SQP:jZ (Sm (((x/y:Nat):Int)*sgn (!σ) p')):=⟨HS2.out.sm1 (by have:=hst.pb';rw[qV,zBR,zAn];omega)⟩;have SQR:jZ (Sm (((x/y:Nat):Int)*sgn σ r')):=⟨HS1.out.sm1 (by have:=hst.rb';rw[qV,zBR,zAn];omega)⟩;have HST:=xgw hst;clear hst;go_upto_region 7 with(fail)
 obtain⟨sn,sa,sl,sc,ks,is⟩:=z9;obtain⟨nn,na,nl,nc,kn,jn⟩:=z10;obtain⟨en,ea,el,ec,ke,je⟩:=z13;obtain⟨c1,c2,c3,c4⟩:=ks.two;obtain⟨d1,d2,d3,d4⟩:=kn.two;obtain⟨f1,f2,f3,f4⟩:=ke.two;have lke:=ke.lt;refine zJ7 [pcD 2 [] (fun _ v=>v= .agg #[.bool en,.slice ea el ec]),pcI 4 (((x/y:Nat):Int)*(sgn (!σ) p')),pcD 5 [4] (fun w v=>jY w v ((sgn σ p)-((x/y:Nat):Int)*(sgn (!σ) p'))),pbE 6 (w3.heap.size) 43 2,pbE 7 (w3.heap.size+1) 43 2] ?_;refine sRd ?_;refine sRg (fun wS hI Gk hG=>?_) (fun _ hv=>?_)
 ·have cc0:=hI.cell f1
  have cc1:=hI.cell f2;go_simp;exact⟨hG _ _ rfl,zA _ _⟩
 obtain⟨_,-,rfl⟩:=hv;refine sRd ?_;refine sRg (fun wS hI Gk hG=>by go_simp;exact ck hG (zEE _ _ ((x/y:Nat):Int) (sgn (!σ) p') _ (je.ext hI.lext).weak (jn.ext hI.lext).weak SQ.out SP'.out)) (fun vb4 _=>?_);refine sRg (fun wS hI hb4 Gk hG=>?_) (fun vb5 hv=>?_)
 ·go_simp
  exact ck hG (zOo _ _ (sgn σ p) (((x/y:Nat):Int)*(sgn (!σ) p')) _ (is.ext hI.lext).weak hb4.weak SP.out SQP.out)
 obtain⟨xb7,yb7,rfl,qb7⟩:=zL7 hv;clear hv;refine sRx (.agg #[.bool nn,.slice na nl nc]) ?_;refine sRx (.agg #[xb7,yb7]) ?_ qb7;refine sRb ?_;simp only[FA,FC,FN,ptr,List.nil_append,List.cons_append,Act.put,xgh,xgi,xgj];intro W9 hRW9 _ hb4 hb5 kb6 kb7;obtain⟨exb6,eyb6,ebb6,eib6⟩:∃xq yq,Blk W9 (w3.heap.size) 43 #[xq,yq]/\jY W9 (.agg #[xq,yq]) ((sgn (!σ) p')):=⟨_,_,kb6 _ rfl,jY.ext jn hRW9.lext⟩;obtain⟨exb7,eyb7,ebb7,eib7⟩:∃xq yq,Blk W9 (w3.heap.size+1) 43 #[xq,yq]/\jY W9 (.agg #[xq,yq]) ((sgn σ p)-((x/y:Nat):Int)*(sgn (!σ) p')):=⟨_,_,kb7 _ rfl,hb5⟩;clear kb6 kb7;have hlW9:=hRW9.lext;have hbW9:=hRW9.bel (w.heap.size);have holdW9:∀k,k<W8.heap.size->(∀s∈ [((w3.heap.size:Nat),0),((w3.heap.size+1:Nat),0)],s.1≠k)->W9.heap[k]?=W8.heap[k]?:=fun k hk hn=>hRW9.old k oM (by simp only[xgm]at hn;repeat' (first|exact trivial|omega|refine⟨?_,?_⟩))
 rw[(zGg σ p (x/y) p')]at eib7;have z13:=zCQ.mk ke je;have hk:zOx w W9 a b:=hk.old (fun k hk0=>holdW9 _ oM aU) hlW9;have z7:=z7.old (holdW9 _ oM aU) hlW9;have z8:=z8.old (holdW9 _ oM aU) hlW9;have z13:=z13.old (holdW9 _ oM aU) hlW9;have z11:=z11.old (holdW9 _ oM aU) hlW9;have z12:=z12.old (holdW9 _ oM aU) hlW9;have z9:=zCQ.mk ebb6 eib6;have z10:=zCQ.mk ebb7 eib7;have hBt:=hBt.trans hbW9;clear c1 c2 c3 c4 d1 d2 d3 d4 f1 f2 f3 f4 holdW9 hlW9 hbW9;have er:sgn (!σ) r-((x/y:Nat):Int)*sgn σ r'=sgn (!σ) (r+x/y*r'):=by
  have:=zGg (!σ) r (x/y) r';rwa[zCG]at this
 go_upto_region 8 with(fail)
 obtain⟨sn,sa,sl,sc,ks,is⟩:=z11;obtain⟨nn,na,nl,nc,kn,jn⟩:=z12;obtain⟨en,ea,el,ec,ke,je⟩:=z13;obtain⟨c1,c2,c3,c4⟩:=ks.two;obtain⟨d1,d2,d3,d4⟩:=kn.two;obtain⟨f1,f2,f3,f4⟩:=ke.two;have lke:=ke.lt;refine zJ7 [pcD 2 [] (fun _ v=>v= .agg #[.bool en,.slice ea el ec]),pcI 4 (((x/y:Nat):Int)*(sgn σ r')),pcD 5 [4] (fun w v=>jY w v ((sgn (!σ) r)-((x/y:Nat):Int)*(sgn σ r'))),pbE 6 (w6.heap.size) 43 2,pbE 7 (w6.heap.size+1) 43 2] ?_;refine sRd ?_;refine sRg (fun wS hI Gk hG=>?_) (fun _ hv=>?_)
 ·have cc0:=hI.cell f1
  have cc1:=hI.cell f2;go_simp;exact⟨hG _ _ rfl,zA _ _⟩
 obtain⟨_,-,rfl⟩:=hv;refine sRd ?_;refine sRg (fun wS hI Gk hG=>by go_simp;exact ck hG (zEE _ _ ((x/y:Nat):Int) (sgn σ r') _ (je.ext hI.lext).weak (jn.ext hI.lext).weak SQ.out SR'.out)) (fun vc4 _=>?_);refine sRg (fun wS hI hc4 Gk hG=>?_) (fun vc5 hv=>?_)
 ·go_simp
  exact ck hG (zOo _ _ (sgn (!σ) r) (((x/y:Nat):Int)*(sgn σ r')) _ (is.ext hI.lext).weak hc4.weak SR.out SQR.out)
 obtain⟨xc7,yc7,rfl,qc7⟩:=zL7 hv;clear hv;refine sRx (.agg #[.bool nn,.slice na nl nc]) ?_;refine sRx (.agg #[xc7,yc7]) ?_ qc7;refine sRb ?_;simp only[FA,FC,FN,ptr,List.nil_append,List.cons_append,Act.put,xgh,xgi,xgj];intro WA hRWA _ hc4 hc5 kc6 kc7;obtain⟨exc6,eyc6,ebc6,eic6⟩:∃xq yq,Blk WA (w6.heap.size) 43 #[xq,yq]/\jY WA (.agg #[xq,yq]) ((sgn σ r')):=⟨_,_,kc6 _ rfl,jY.ext jn hRWA.lext⟩;obtain⟨exc7,eyc7,ebc7,eic7⟩:∃xq yq,Blk WA (w6.heap.size+1) 43 #[xq,yq]/\jY WA (.agg #[xq,yq]) ((sgn (!σ) r)-((x/y:Nat):Int)*(sgn σ r')):=⟨_,_,kc7 _ rfl,hc5⟩;clear kc6 kc7;have hlWA:=hRWA.lext;have hbWA:=hRWA.bel (w.heap.size);have holdWA:∀k,k<W9.heap.size->(∀s∈ [((w6.heap.size:Nat),0),((w6.heap.size+1:Nat),0)],s.1≠k)->WA.heap[k]?=W9.heap[k]?:=fun k hk hn=>hRWA.old k oM (by simp only[xgm]at hn;repeat' (first|exact trivial|omega|refine⟨?_,?_⟩))
 rw[er]at eic7;have z13:=zCQ.mk ke je;have hk:zOx w WA a b:=hk.old (fun k hk0=>holdWA _ oM aU) hlWA;have z7:=z7.old (holdWA _ oM aU) hlWA;have z8:=z8.old (holdWA _ oM aU) hlWA;have z13:=z13.old (holdWA _ oM aU) hlWA;have z9:=z9.old (holdWA _ oM aU) hlWA;have z10:=z10.old (holdWA _ oM aU) hlWA;have z11:=zCQ.mk ebc6 eic6;have z12:=zCQ.mk ebc7 eic7;have hBt:=hBt.trans hbWA;clear c1 c2 c3 c4 d1 d2 d3 d4 f1 f2 f3 f4 holdWA hlWA hbWA;go_wp2;go_roundw
 case rel=>
  exact⟨y,x%y,!σ,p',_,r',_,HST.out,hBt,hk,z7,z8,z9,by rw[zCG];exact z10,by rw[zCG];exact z11,z12⟩
 obtain⟨zn,za,zl,zc,k8,i8⟩:=z8;rw[hf _ _ _ _ _ k8 i8,hfr];have h5:=zAy (x:Int) (show(y:Int)≠0 by omega);have h6:=Int.emod_lt (x:Int) (show(y:Int)≠0 by omega);omega
abbrev tI:TypeId:=43
def jJ(w:World)(b:Nat)(zs:List Int):Prop:=
 ∃cs:Array Value,w.heap[b]?=some (.cells cs tI (0,0))/\∀k z,zs[k]?=some z->∃s a l c,cs[k*2]?=some (.bool s)/\cs[k*2+1]?=some (.slice a l c)/\jY w (.agg #[.bool s,.slice a l c]) z
theorem jJ.lt(h:jJ w b zs):b<w.heap.size:=by
 obtain⟨cs,h1,-⟩:=h;exact(Array.getElem?_eq_some_iff.1 h1).1
theorem jJ.old(h:jJ w b zs)(e:w'.heap[b]?=w.heap[b]?)(x:zBw w w'):jJ w' b zs:=by
 obtain⟨cs,h1,h2⟩:=h;refine⟨cs,e.trans h1,fun k z hk=>?_⟩;obtain⟨s,a,l,c,e1,e2,e3⟩:=h2 k z hk;exact⟨s,a,l,c,e1,e2,e3.ext x⟩
theorem jJ.below(h:jJ w b zs)(hb:BWq w w'):jJ w' b zs:=h.old (hb.block _ h.lt) (lx hb)
theorem jJ.cell(h:jJ w b zs)(hk:zs[k]?=some z):
  ∃s a l c,w.cell? ⟨b,k*2,none⟩=some (.bool s)/\w.cell? ⟨b,k*2+1,none⟩=some (.slice a l c)/\w.frozen? ⟨b,k*2,none⟩=false/\w.frozen? ⟨b,k*2+1,none⟩=false/\jY w (.agg #[.bool s,.slice a l c]) z:=by
 obtain⟨cs,h1,h2⟩:=h;obtain⟨s,a,l,c,e1,e2,e3⟩:=h2 k z hk;exact⟨s,a,l,c,(cell_of_row w b _ cs tI _ h1).trans e1,(cell_of_row w b _ cs tI _ h1).trans e2,frozen_of_row w b _ cs tI h1,frozen_of_row w b _ cs tI h1,e3⟩
theorem zY(w:World)(b i k:Nat)(u:Value)(h:k≠b):(w.setCell ⟨b,i,none⟩ u).heap[k]?=w.heap[k]?:=yF w ⟨b,i,none⟩ u k h
theorem yO(w:World)(b i j k:Nat)(u v:Value)(h:k≠b):((w.setCell ⟨b,i,none⟩ u).setCell ⟨b,j,none⟩ v).heap[k]?=w.heap[k]?:=
 (zY _ b j k v h).trans (zY _ b i k u h)
theorem jJ.set(h:jJ w b zs)(hk:k<zs.length){s:Bool}{a:Option Addr}{l c:Nat}(hv:jY w (.agg #[.bool s,.slice a l c]) z):
  jJ ((w.setCell ⟨b,k*2,none⟩ (.bool s)).setCell ⟨b,k*2+1,none⟩ (.slice a l c)) b (zs.set k z)/\zBw w ((w.setCell ⟨b,k*2,none⟩ (.bool s)).setCell ⟨b,k*2+1,none⟩ (.slice a l c)):=by
 obtain⟨cs,h1,h2⟩:=h;have hB:Blk w b tI cs:=h1;have hx:zBw w ((w.setCell ⟨b,k*2,none⟩ (.bool s)).setCell ⟨b,k*2+1,none⟩ (.slice a l c)):=(hB.lext dE _ _).trans ((hB.set_ _ _).lext dE _ _);refine⟨⟨(cs.setIfInBounds (k*2) (.bool s)).setIfInBounds (k*2+1) (.slice a l c),(hB.set_ _ _).set_ _ _,?_⟩,hx⟩;intro j y hj;by_cases e:j=k
 ·subst e
  rw[List.getElem?_set_self hk]at hj;injection hj with hj
  subst hj;obtain⟨s0,a0,l0,c0,e1,e2,-⟩:=h2 j zs[j] (xga hk);have l1:=(Array.getElem?_eq_some_iff.1 e1).1;have l2:=(Array.getElem?_eq_some_iff.1 e2).1;refine⟨s,a,l,c,?_,?_,hv.ext hx⟩;rw[xgc oM,Array.getElem?_setIfInBounds_self_of_lt l1];rw[Array.getElem?_setIfInBounds_self_of_lt (by simpa using l2)]
 rw[List.getElem?_set_ne (qD e)]at hj;obtain⟨s0,a0,l0,c0,e1,e2,e3⟩:=h2 j y hj;refine⟨s0,a0,l0,c0,?_,?_,e3.ext hx⟩;rw[xgc oM,xgc oM];exact e1;rw[xgc oM,xgc oM];exact e2
def zAv(w:World)(v:Value)(zs:List Int):Prop:=
 ∃ao n cap,v= .slice ao n cap/\zs.length=n/\n<=cap/\cap<=9223372036854775807/\(zs≠ []->∃b,ao=some ⟨b,0,none⟩/\jJ w b zs)
theorem zAv.nil(w:World):zAv w (.slice none 0 0) []:=⟨none,0,0,rfl,rfl,xgf _,oM,fun h=>absurd rfl h⟩
theorem zAv.below{v:Value}(h:zAv w v zs)(hb:BWq w w'):zAv w' v zs:=by
 obtain⟨ao,n,cap,h1,h2,h3,h4,h5⟩:=h;exact⟨ao,n,cap,h1,h2,h3,h4,fun hn=>(h5 hn).elim fun b h=>⟨b,h.1,h.2.below hb⟩⟩
theorem zAv.cell(h:zAv w (.slice ao n cap) zs)(hk:k<zs.length):
  ∃b z s a l c,ao=some ⟨b,0,none⟩/\b<w.heap.size/\zs[k]?=some z/\w.cell? ⟨b,k*2,none⟩=some (.bool s)/\w.cell? ⟨b,k*2+1,none⟩=some (.slice a l c)/\jY w (.agg #[.bool s,.slice a l c]) z:=by
 obtain⟨ao',n',cap',h1,h2,h3,h4,h5⟩:=h;injection h1 with e1 e2 e3
 subst e1;obtain⟨b,e,hr⟩:=h5 (by rintro rfl;simp at hk);obtain⟨s,a,l,c,c1,c2,-,-,c5⟩:=hr.cell (xga hk);exact⟨b,_,s,a,l,c,e,hr.lt,xga hk,c1,c2,c5⟩
theorem zAv.len(h:zAv w (.slice ao n cap) zs):zs.length=n/\n<=cap/\cap<=9223372036854775807:=by
 obtain⟨ao',n',cap',h1,h2,h3,h4,h5⟩:=h;injection h1 with e1 e2 e3
 omega
def zBq(w:World)(v:Value)(M:List (List Int)):Prop:=
 ∃ao n cap,v= .slice ao n cap/\M.length=n/\n<=cap/\cap<=9223372036854775807/\(M≠ []->∃(b:Nat) (cs:Array Value),ao=some ⟨b,0,none⟩/\w.heap[b]?=some (.cells cs 46 (0,0))/\∀(k:Nat) (zs:List Int),M[k]?=some zs->∃rv,cs[k]?=some rv/\zAv w rv zs)
theorem zBq.nil(w:World):zBq w (.slice none 0 0) []:=⟨none,0,0,rfl,rfl,xgf _,oM,fun h=>absurd rfl h⟩
theorem zBq.below{v:Value}(h:zBq w v M)(hb:BWq w w'):zBq w' v M:=by
 obtain⟨ao,n,cap,h1,h2,h3,h4,h5⟩:=h;refine⟨ao,n,cap,h1,h2,h3,h4,fun hn=>?_⟩;obtain⟨b,cs,e1,e2,e3⟩:=h5 hn;refine⟨b,cs,e1,(hb.block _ (Array.getElem?_eq_some_iff.1 e2).1).trans e2,fun k zs hk=>?_⟩;obtain⟨rv,e4,e5⟩:=e3 k zs hk;exact⟨rv,e4,e5.below hb⟩
theorem zBq.row(h:zBq w (.slice ao n cap) M)(hk:k<M.length):
  ∃b ra rn rc zs,ao=some ⟨b,0,none⟩/\b<w.heap.size/\M[k]?=some zs/\w.cell? ⟨b,k,none⟩=some (.slice ra rn rc)/\zAv w (.slice ra rn rc) zs:=by
 obtain⟨ao',n',cap',h1,h2,h3,h4,h5⟩:=h;injection h1 with e1 e2 e3
 subst e1;obtain⟨b,cs,e,hr,hc⟩:=h5 (by rintro rfl;simp at hk);obtain⟨rv,c1,c2⟩:=hc k _ (xga hk);obtain⟨ra,rn,rc,rfl,c3⟩:=id c2;exact⟨b,ra,rn,rc,_,e,(Array.getElem?_eq_some_iff.1 hr).1,xga hk,(cell_of_row w b k cs _ _ hr).trans c1,c2⟩
theorem zBq.len(h:zBq w (.slice ao n cap) M):M.length=n/\n<=cap/\cap<=9223372036854775807:=by
 obtain⟨ao',n',cap',h1,h2,h3,h4,h5⟩:=h;injection h1 with e1 e2 e3
 omega
def zAC(w:World)(v:Value)(R C:Int)(M:List (List Int)):Prop:=∃A,v= .agg #[niq R,niq C,A]/\zBq w A M
theorem zAC.below{v:Value}{C:Int}(h:zAC w v R C M)(hb:BWq w w'):zAC w' v R C M:=by
 obtain⟨A,h1,h2⟩:=h;exact⟨A,h1,h2.below hb⟩
def zBU(R C:Nat)(M:List (List Int)):Prop:=M.length=R/\∀r∈M,r.length=C
theorem zNV(v:Value)(zs:List Int)(w:World)(h:zAv w v zs):
  CPq 175 #[v] w fun e w'=>e= .returned (.bool true)/\BWq w w':=by
 obtain⟨ao,n,cap,rfl,h2,h3,h4,h5⟩:=id h;have HL:=xgw h2;clear h2 h5;go_enter Tryz.func175,Tryz.ntmps175;go_wp2;go_loopw [3] (fun i wr=>∃k:Nat,k<=n/\i=niq k/\BWq w wr) (fun i _=>n-(intOf i).toNat)
 case atStart=>exact⟨0,oM,rfl,zA _ _⟩
 obtain⟨k,hk,rfl,hb⟩:=hrel;by_cases hlt:k<n
 ·obtain⟨b,z,s,a,l,c,rfl,hbl,-,c1,c2,hv⟩:=(h.below hb).cell (k:=k) (by rw[HL.out];exact hlt)
  go_wp2_with fail
  refine(zOd _ _ wr hv).mono ?_;rintro e w1 ⟨rfl,hb1⟩;go_wp2;go_roundw
  case rel=>exact⟨k+1,oM,by simp,nx hb hb1⟩
  case measure=>exact meq
 obtain rfl:k=n:=oM;go_wp2;go_ret;exact⟨rfl,hb⟩
theorem zJ1{α:Type}{xs ys:List α}{x y:α}(h:xs.take k=ys.take k)(hx:xs[k]?=some x)(hy:ys[k]?=some y)(e:x=y):xs.take (k+1)=ys.take (k+1):=by
 rw[jD,jD,hx,hy,h,e]
theorem zHS{α:Type}{xs ys:List α}{x y:α}(hx:xs[k]?=some x)(hy:ys[k]?=some y)(e:x≠y):xs≠ys:=by
 rintro rfl;rw[hx]at hy;injection hy with hy
 exact e hy
theorem zJv(v1 v2:Value)(xs ys:List Int)(w:World)(h1:zAv w v1 xs)(h2:zAv w v2 ys):
  CPq 79 #[v1,v2] w fun e w'=>e= .returned (.bool (decide (xs=ys)))/\BWq w w':=by
 obtain⟨ao,n,cap,rfl,e2,e3,e4,e5⟩:=id h1;obtain⟨bo,m,bcap,rfl,f2,f3,f4,f5⟩:=id h2;have HX:=xgw e2;have HY:=xgw f2;clear e2 e5 f2 f5;by_cases hlen:n=m
 ·subst hlen
  go_enter Tryz.func79,Tryz.ntmps79;go_wp2;go_loopw [5] (fun i wr=>∃k:Nat,k<=n/\i=niq k/\BWq w wr/\Hid (xs.take k=ys.take k)) (fun i _=>n-(intOf i).toNat)
  case atStart=>exact⟨0,oM,rfl,zA _ _,by rw[jI,jI];exact xgw rfl⟩
  obtain⟨k,hk,rfl,hb,hsame⟩:=hrel;by_cases hlt:k<n
  ·obtain⟨b,z,s,a,l,c,rfl,hbl,hz,c1,c2,hv⟩:=(h1.below hb).cell (k:=k) (by rw[HX.out];exact hlt)
   obtain⟨b',z',s',a',l',c',rfl,hbl',hz',d1,d2,hv'⟩:=(h2.below hb).cell (k:=k) (by rw[HY.out];exact hlt);have HZ:=xgw hz;have HZ':=xgw hz';clear hz hz';have c1':=zBn c1;have c2':=zBn c2;have d1':=zBn d1;have d2':=zBn d2;go_upto_region 6 with(fail)
   go_still_tail 8,kR;change wpList _ _ _ _ _ wr.drew;go_wp2_with fail
   refine(zK1 _ _ z z' _ (hv.ext (lx (dr _))) (hv'.ext (lx (dr _)))).mono ?_;rintro e w1 ⟨rfl,hb1⟩;by_cases he:z=z'
   ·rw[decide_eq_true he]
    go_wp2;go_roundw
    case rel=>exact⟨k+1,oM,by simp,nx (nx hb (dr _)) hb1,xgw (zJ1 hsame.out HZ.out HZ'.out he)⟩
    case measure=>exact meq
   rw[decide_eq_false he];go_wp2;go_ret;exact⟨by rw[decide_eq_false (zHS HZ.out HZ'.out he)];rfl,nx (nx hb (dr _)) hb1⟩
  obtain rfl:k=n:=oM;go_wp2;go_ret;refine⟨?_,hb⟩;have:=hsame.out;rw[<-HX.out,jA,HX.out,<-HY.out,jA]at this;rw[decide_eq_true this];rfl
 have hne:xs≠ys:=by rintro rfl;exact hlen (HX.out.symm.trans HY.out)
 have hd:=decide_eq_false hne;rw[hd];have hi:¬ (n:Int)=(m:Int):=oM;go_enter Tryz.func79,Tryz.ntmps79;go_wp2;go_ret;exact⟨rfl,zA _ _⟩
def zHA(w:World)(v:Value)(M:List (List Int)):Prop:=
 ∃ao n cap,v= .slice ao n cap/\M.length=n/\n<=cap/\cap<=9223372036854775807/\(M≠ []->∃(b o:Nat) (cs:Array Value),ao=some ⟨b,o,none⟩/\w.heap[b]?=some (.cells cs 46 (0,0))/\∀(k:Nat) (zs:List Int),M[k]?=some zs->∃rv,cs[o+k]?=some rv/\zAv w rv zs)
theorem zBq.off0{v:Value}(h:zBq w v M):zHA w v M:=by
 obtain⟨ao,n,cap,h1,h2,h3,h4,h5⟩:=h;refine⟨ao,n,cap,h1,h2,h3,h4,fun hn=>?_⟩;obtain⟨b,cs,e1,e2,e3⟩:=h5 hn;exact⟨b,0,cs,e1,e2,fun k zs hk=>by rw[zAR];exact e3 k zs hk⟩
theorem zHA.below{v:Value}(h:zHA w v M)(hb:BWq w w'):zHA w' v M:=by
 obtain⟨ao,n,cap,h1,h2,h3,h4,h5⟩:=h;refine⟨ao,n,cap,h1,h2,h3,h4,fun hn=>?_⟩;obtain⟨b,o,cs,e1,e2,e3⟩:=h5 hn;refine⟨b,o,cs,e1,(hb.block _ (Array.getElem?_eq_some_iff.1 e2).1).trans e2,fun k zs hk=>?_⟩;obtain⟨rv,e4,e5⟩:=e3 k zs hk;exact⟨rv,e4,e5.below hb⟩
theorem zHA.row(h:zHA w (.slice ao n cap) M)(hk:k<M.length):
  ∃b o ra rn rc zs,ao=some ⟨b,o,none⟩/\b<w.heap.size/\M[k]?=some zs/\w.cell? ⟨b,o+k,none⟩=some (.slice ra rn rc)/\zAv w (.slice ra rn rc) zs:=by
 obtain⟨ao',n',cap',h1,h2,h3,h4,h5⟩:=h;injection h1 with e1 e2 e3
 subst e1;obtain⟨b,o,cs,e,hr,hc⟩:=h5 (by rintro rfl;simp at hk);obtain⟨rv,c1,c2⟩:=hc k _ (xga hk);obtain⟨ra,rn,rc,rfl,c3⟩:=id c2;exact⟨b,o,ra,rn,rc,_,e,(Array.getElem?_eq_some_iff.1 hr).1,xga hk,(cell_of_row w b _ cs _ _ hr).trans c1,c2⟩
def zIw(w:World)(v:Value)(R C:Int)(M:List (List Int)):Prop:=∃A,v= .agg #[niq R,niq C,A]/\zHA w A M
theorem zAC.off{v:Value}{C:Int}(h:zAC w v R C M):zIw w v R C M:=by
 obtain⟨A,h1,h2⟩:=h;exact⟨A,h1,h2.off0⟩
theorem zIw.below{v:Value}{C:Int}(h:zIw w v R C M)(hb:BWq w w'):zIw w' v R C M:=by
 obtain⟨A,h1,h2⟩:=h;exact⟨A,h1,h2.below hb⟩
theorem zPi(v1 v2:Value)(R1 C1 R2 C2:Int)(M1 M2:List (List Int))(w:World)(h1:zAC w v1 R1 C1 M1)(h2:zAC w v2 R2 C2 M2):
  CPq 24 #[v1,v2] w fun e w'=>e= .returned (.bool (decide (R1=R2/\C1=C2/\M1=M2)))/\BWq w w':=by
 obtain⟨A1,rfl,h1⟩:=h1;obtain⟨A2,rfl,h2⟩:=h2;obtain⟨ao,n,cap,rfl,e2,e3,e4,-⟩:=id h1;obtain⟨bo,m,bcap,rfl,f2,f3,f4,-⟩:=id h2;have HX:=xgw e2;have HY:=xgw f2;clear e2 f2;by_cases hall:R1=R2/\C1=C2/\n=m
 ·obtain⟨rfl,rfl,rfl⟩:=hall
  have hd:decide (R1=R1/\C1=C1/\M1=M2)=decide (M1=M2):=by simp
  rw[hd];clear hd;go_enter Tryz.func24,Tryz.ntmps24;go_upto_region 1 with(fail)
  refine zD ?_;intro W0 hW0;obtain⟨hB0,bx1,bx2,hs0⟩:=zAj hW0;obtain⟨c1,c2,c3,c4,c5,c6⟩:=bx1.three;obtain⟨d1,d2,d3,d4,d5,d6⟩:=bx2.three;have h1:=h1.below hB0;have h2:=h2.below hB0;go_wp2;go_loopw [5] (fun i wr=>∃k:Nat,k<=n/\i=niq k/\BWq w wr/\BWq W0 wr/\Hid (M1.take k=M2.take k)) (fun i _=>n-(intOf i).toNat)
  case atStart=>exact⟨0,oM,rfl,hB0,zA _ _,by rw[jI,jI];exact xgw rfl⟩
  obtain⟨k,hk,rfl,hb,hb0,hsame⟩:=hrel;have bx1:=bx1.below hb0;have bx2:=bx2.below hb0;clear c1 c2 c3 c4 c5 c6 d1 d2 d3 d4 d5 d6;obtain⟨c1,c2,c3,c4,c5,c6⟩:=bx1.three;obtain⟨d1,d2,d3,d4,d5,d6⟩:=bx2.three;by_cases hlt:k<n
  ·obtain⟨b,ra,rn,rc,zs,rfl,hbl,hz,p1,hv⟩:=(h1.below hb0).row (k:=k) (by rw[HX.out];exact hlt)
   obtain⟨b',ra',rn',rc',zs',rfl,hbl',hz',q1,hv'⟩:=(h2.below hb0).row (k:=k) (by rw[HY.out];exact hlt);have HZ:=xgw hz;have HZ':=xgw hz';clear hz hz';have c3':=zBn c3;have d3':=zBn d3;have p1':=zBn p1;have q1':=zBn q1;go_upto_region 6 with(fail)
   go_still_tail 10,kR;change wpList _ _ _ _ _ wr.drew;go_wp2_with fail
   refine(zJv _ _ zs zs' _ (hv.below (dr _)) (hv'.below (dr _))).mono ?_;rintro e w1 ⟨rfl,hb1⟩;by_cases he:zs=zs'
   ·rw[decide_eq_true he]
    go_wp2;go_roundw
    case rel=>exact⟨k+1,oM,by simp,nx (nx hb (dr _)) hb1,nx (nx hb0 (dr _)) hb1,xgw (zJ1 hsame.out HZ.out HZ'.out he)⟩
    case measure=>exact meq
   rw[decide_eq_false he];go_wp2;go_ret;exact⟨by rw[decide_eq_false (zHS HZ.out HZ'.out he)];rfl,nx (nx hb (dr _)) hb1⟩
  obtain rfl:k=n:=oM;go_wp2;go_ret;refine⟨?_,hb⟩;have:=hsame.out;rw[<-HX.out,jA,HX.out,<-HY.out,jA]at this;rw[decide_eq_true this];rfl
 have hne:¬ (R1=R2/\C1=C2/\M1=M2):=by
  rintro⟨a,b,c⟩;subst c;exact hall ⟨a,b,HX.out.symm.trans HY.out⟩
 rw[decide_eq_false hne];clear hne;by_cases hR:R1=R2
 ·by_cases hC:C1=C2
  ·have hn:¬ (n:Int)=(m:Int):=fun h=>hall ⟨hR,hC,oM⟩
   clear hall;go_enter Tryz.func24,Tryz.ntmps24;go_upto_region 1 with(fail)
   refine zD ?_;intro W0 hW0;obtain⟨hB0,bx1,bx2,hs0⟩:=zAj hW0;obtain⟨c1,c2,c3,c4,c5,c6⟩:=bx1.three;obtain⟨d1,d2,d3,d4,d5,d6⟩:=bx2.three;go_wp2;go_ret;exact⟨rfl,hB0⟩
  clear hall;go_enter Tryz.func24,Tryz.ntmps24;go_upto_region 1 with(fail)
  refine zD ?_;intro W0 hW0;obtain⟨hB0,bx1,bx2,hs0⟩:=zAj hW0;obtain⟨c1,c2,c3,c4,c5,c6⟩:=bx1.three;obtain⟨d1,d2,d3,d4,d5,d6⟩:=bx2.three;go_wp2;go_ret;exact⟨rfl,hB0⟩
 clear hall;go_enter Tryz.func24,Tryz.ntmps24;go_upto_region 1 with(fail)
 refine zD ?_;intro W0 hW0;obtain⟨hB0,bx1,bx2,hs0⟩:=zAj hW0;obtain⟨c1,c2,c3,c4,c5,c6⟩:=bx1.three;obtain⟨d1,d2,d3,d4,d5,d6⟩:=bx2.three;go_wp2;go_ret;exact⟨rfl,hB0⟩
def zBS(R C:Int)(M:List (List Int)):Prop:=0<=R/\0<=C/\(M.length:Int)=R/\∀r∈M,(r.length:Int)=C
instance (R C:Int) (M:List (List Int)):Decidable (zBS R C M):=inferInstanceAs (Decidable (_/\_))
theorem zOf(v:Value)(R C:Int)(M:List (List Int))(w:World)(h:zIw w v R C M):
  CPq 130 #[v] w fun e w'=>e= .returned (.bool (decide (zBS R C M)))/\BWq w w':=by
 obtain⟨A,rfl,h⟩:=h;obtain⟨ao,n,cap,rfl,e2,e3,e4,-⟩:=id h;have HX:=xgw e2;clear e2;by_cases hall:0<=R/\0<=C/\(n:Int)=R
 ·obtain⟨h0,h1,rfl⟩:=hall
  have hd:decide (zBS n C M)=decide (∀r∈M,(r.length:Int)=C):=decide_eq_decide.2 ⟨fun h=>h.2.2.2,fun h=>⟨h0,h1,by rw[HX.out],h⟩⟩;rw[hd];clear hd;go_enter Tryz.func130,Tryz.ntmps130;go_upto_region 1 with(fail)
  refine zD ?_;intro W0 hW0;obtain⟨hB0,bx1,hs0⟩:=qL hW0;obtain⟨c1,c2,c3,c4,c5,c6⟩:=bx1.three;have h:=h.below hB0;go_wp2;go_loopw [3] (fun i wr=>∃k:Nat,k<=n/\i=niq k/\BWq w wr/\BWq W0 wr/\Hid (∀r∈M.take k,(r.length:Int)=C)) (fun i _=>n-(intOf i).toNat)
  case atStart=>exact⟨0,oM,rfl,hB0,zA _ _,by rw[jI];exact xgw (fun r hr=>by cases hr)⟩
  obtain⟨k,hk,rfl,hb,hb0,hall⟩:=hrel;have bx1:=bx1.below hb0;clear c1 c2 c3 c4 c5 c6;obtain⟨c1,c2,c3,c4,c5,c6⟩:=bx1.three;by_cases hlt:k<n
  ·obtain⟨b,o,ra,rn,rc,zs,rfl,hbl,hz,p1,hv⟩:=(h.below hb0).row (k:=k) (by rw[HX.out];exact hlt)
   have HZ:=xgw hz;have HL:=xgw hv.len.1;clear hz;have c2':=zBn c2;have c3':=zBn c3;have p1':=zBn p1;go_upto_region 6 with(fail)
   by_cases hrc:(rn:Int)=C
   ·go_still_tail 15,kR
    change wpList _ _ _ _ _ wr.drew;go_wp2_with fail
    refine(zNV _ zs _ (hv.below (dr _))).mono ?_;rintro e w1 ⟨rfl,hb1⟩;go_wp2;go_roundw
    case rel=>
     refine⟨k+1,oM,by simp,nx (nx hb (dr _)) hb1,nx (nx hb0 (dr _)) hb1,xgw ?_⟩;rw[jD,HZ.out];intro r hr;rcases List.mem_append.1 hr with hr|hr
     exact hall.out r hr;simp at hr;rw[hr,HL.out,hrc]
    case measure=>exact meq
   go_quiet (fail);go_wp2;go_ret;refine⟨?_,nx hb (drN _ _)⟩;have hbad:¬ ∀r∈M,(r.length:Int)=C:=fun hh=>hrc (by rw[<-HL.out];exact hh zs (xgd HZ.out))
   rw[decide_eq_false hbad];rfl
  obtain rfl:k=n:=oM;go_wp2;go_ret;refine⟨?_,hb⟩;have:=hall.out;rw[<-HX.out,jA]at this;rw[decide_eq_true this];rfl
 have hne:¬ zBS R C M:=by
  rintro⟨a,b,c,-⟩;exact hall ⟨a,b,by rw[<-HX.out];exact c⟩
 rw[decide_eq_false hne];clear hne;by_cases hR:0<=R
 ·have hR':¬ R<0:=oM
  by_cases hC:0<=C
  ·have hn:¬ (n:Int)=R:=fun h=>hall ⟨hR,hC,h⟩
   have hC':¬ C<0:=oM;clear hall;go_enter Tryz.func130,Tryz.ntmps130;go_upto_region 1 with(fail)
   refine zD ?_;intro W0 hW0;obtain⟨hB0,bx1,hs0⟩:=qL hW0;obtain⟨c1,c2,c3,c4,c5,c6⟩:=bx1.three;go_wp2;go_ret;exact⟨rfl,hB0⟩
  have hC':C<0:=oM;clear hall;go_enter Tryz.func130,Tryz.ntmps130;go_upto_region 1 with(fail)
  refine zD ?_;intro W0 hW0;obtain⟨hB0,bx1,hs0⟩:=qL hW0;obtain⟨c1,c2,c3,c4,c5,c6⟩:=bx1.three;go_wp2;go_ret;exact⟨rfl,hB0⟩
 have hR':R<0:=oM;clear hall;go_enter Tryz.func130,Tryz.ntmps130;go_upto_region 1 with(fail)
 refine zD ?_;intro W0 hW0;obtain⟨hB0,bx1,hs0⟩:=qL hW0;obtain⟨c1,c2,c3,c4,c5,c6⟩:=bx1.three;go_wp2;go_ret;exact⟨rfl,hB0⟩
theorem zJr(v:Value)(R C:Int)(M:List (List Int))(w:World)(h:zAC w v R C M):
  CPq 130 #[v] w fun e w'=>e= .returned (.bool (decide (zBS R C M)))/\BWq w w':=zOf v R C M w h.off
theorem zBd(h:z=0):zAt z 0=0:=by subst h;rfl
theorem zCr(h:z≠0):zAt z 0≠0:=by unfold zAt;split<;>(try split)<;>omega
theorem zNt(v1 v2:Value)(a b:Int)(w:World)(h1:jY w v1 a)(h2:jY w v2 b)(s1:Smd a)(s2:Smd b):
  CPq 160 #[v1,v2] w fun e w'=>e= .returned (.bool (decide (a∣b)))/\BWq w w':=by
 by_cases ha:a=0
 ·have hd:decide (a∣b)=decide (b=0):=by
   subst ha;exact decide_eq_decide.2 Int.zero_dvd
  rw[hd];clear hd;obtain⟨neg1,ao1,n1,cap1,xs,rfl,i1⟩:=id h1;obtain⟨neg2,ao2,n2,cap2,ys,rfl,i2⟩:=id h2;have HS1:=xgv s1;have HS2:=xgv s2;clear s1 s2 i1 i2;go_enter Tryz.func160,Tryz.ntmps160;go_upto_region 1 with(fail)
  refine zD ?_;intro W0 hW0;obtain⟨hB0,bx1,bx2,hs0⟩:=zAj hW0;have c1:=bx1.two;have h1:=h1.ext (lx hB0);have h2:=h2.ext (lx hB0);go_wp2_with fail
  refine(zAi _ a W0 h1.weak).mono ?_;rintro e w1 ⟨rfl,hb1⟩;rw[zBd ha];have bx2:=bx2.below hb1;have h2:=h2.ext (lx hb1);have d1:=bx2.two;clear c1;go_wp2_with fail
  refine(zAi _ b w1 h2.weak).mono ?_;rintro e w2 ⟨rfl,hb2⟩;by_cases hb:b=0
  ·rw[zBd hb]
   go_wp2;go_ret;exact⟨by rw[decide_eq_true hb];rfl,nx (nx hB0 hb1) hb2⟩
  have hc:=zCr hb;obtain⟨k,hk⟩:∃k,zAt b 0=k:=⟨_,rfl⟩;rw[hk]at hc ⊢
  have hkb:(k==0)=false:=by simpa using hc
  go_wp2;go_ret;exact⟨by rw[decide_eq_false hb];rfl,nx (nx hB0 hb1) hb2⟩
 have hd:decide (a∣b)=decide (b%a=0):=decide_eq_decide.2 Int.dvd_iff_emod_eq_zero;rw[hd];clear hd;obtain⟨neg1,ao1,n1,cap1,xs,rfl,i1⟩:=id h1;obtain⟨neg2,ao2,n2,cap2,ys,rfl,i2⟩:=id h2;have HS1:=xgv s1;have HS2:=xgv s2;clear s1 s2 i1 i2;go_enter Tryz.func160,Tryz.ntmps160;go_upto_region 1 with(fail)
 refine zD ?_;intro W0 hW0;obtain⟨hB0,bx1,bx2,hs0⟩:=zAj hW0;have c1:=bx1.two;have h1:=h1.ext (lx hB0);have h2:=h2.ext (lx hB0);go_wp2_with fail
 refine(zAi _ a W0 h1.weak).mono ?_;rintro e w1 ⟨rfl,hb1⟩;have hc:=zCr ha;obtain⟨k,hk⟩:∃k,zAt a 0=k:=⟨_,rfl⟩;rw[hk]at hc ⊢
 clear hk;have bx1:=bx1.below hb1;have bx2:=bx2.below hb1;have h1:=h1.ext (lx hb1);have h2:=h2.ext (lx hb1);clear c1;have c1:=bx1.two;have d1:=bx2.two;go_wp2_with fail
 refine(zDt _ _ b a w1 h2.weak h1.weak HS2.out.sm HS1.out.sm ha).mono ?_;rintro e w2 ⟨q0,r0,rfl,hq,hr,hb2⟩;obtain⟨qn,qa,ql,qc,qx,rfl,hq'⟩:=id hq;obtain⟨rn,ra,rl,rc,rx,rfl,hr'⟩:=id hr;have HQ':=xgw hq';have HR':=xgw hr';clear hq' hr' c1 d1;go_upto_region 4 with(fail)
 refine zD ?_;intro W3 hW3;obtain⟨hB3,T5,T6,hs3⟩:=zAj hW3;have hr:=hr.ext (lx hB3);have d1:=T6.two;go_wp2_with fail
 refine(zAi _ (b%a) W3 hr.weak).mono ?_;rintro e w4 ⟨rfl,hb4⟩;by_cases hb:b%a=0
 ·rw[zBd hb]
  go_wp2;go_ret;exact⟨by rw[decide_eq_true hb];rfl,nx (nx (nx (nx hB0 hb1) hb2) hB3) hb4⟩
 have hc2:=zCr hb;obtain⟨k2,hk2⟩:∃k,zAt (b%a) 0=k:=⟨_,rfl⟩;rw[hk2]at hc2 ⊢
 have hkb2:(k2==0)=false:=by simpa using hc2
 go_wp2;go_ret;exact⟨by rw[decide_eq_false hb];rfl,nx (nx (nx (nx hB0 hb1) hb2) hB3) hb4⟩
def zG9(i C:Nat)(r:List Int):Prop:=∀k,k<C->k≠i->r.getD k 0=0
instance (i C:Nat) (r:List Int):Decidable (zG9 i C r):=inferInstanceAs (Decidable (∀k,k<C->_))
def zZU(C:Nat):Nat->Int->List (List Int)->Bool
 |_,_,[]=>true
 |i,last,r::rs=>decide (zG9 i C r) && (if i<C then decide (0<=r.getD i 0) && decide (last∣r.getD i 0) && zZU C (i+1) (r.getD i 0) rs else zZU C (i+1) last rs)
def IsM(R C:Int)(M:List (List Int)):Bool:=decide (zBS R C M) && zZU C.toNat 0 1 M
theorem zDe{α:Type}{l:List α}{x:α}(h:l[k]?=some x):l.drop k=x::l.drop (k+1):=by
 obtain⟨h1,h2⟩:=xge.1 h;rw[jG h1,h2]
theorem zBz{α:Type}{l:List α}{x d:α}(h:l[k]?=some x):l.getD k d=x:=by simp[xgb,h]
theorem Smd.one{z:Int}(h:z.natAbs<=1):Smd z:=⟨zK h (by
 have h1:=zKN 0 zUN (by rw[zEV];omega)
 rw[zEW]at h1
 exact h1)⟩
abbrev zGN:=@Smd.one
theorem zGb(v:Value)(R C:Int)(M:List (List Int))(w:World)(h:zIw w v R C M):
  CPq 85 #[v] w fun e w'=>e= .returned (.bool (decide (zBS R C M)))/\BWq w w':=by
 obtain⟨A,rfl,h⟩:=h;obtain⟨ao,n,cap,rfl,e2,e3,e4,-⟩:=id h;have HX:=xgw e2;clear e2;by_cases hall:0<=R/\0<=C/\(n:Int)=R
 ·obtain⟨h0,h1,rfl⟩:=hall
  have hd:decide (zBS n C M)=decide (∀r∈M,(r.length:Int)=C):=decide_eq_decide.2 ⟨fun h=>h.2.2.2,fun h=>⟨h0,h1,by rw[HX.out],h⟩⟩;rw[hd];clear hd;go_enter Tryz.func85,Tryz.ntmps85;go_upto_region 1 with(fail)
  refine zD ?_;intro W0 hW0;obtain⟨hB0,bx1,hs0⟩:=qL hW0;have c1:=bx1.three;go_wp2;clear c1;go_loopw [26] (fun i wr=>∃k:Nat,k<=n/\i=niq k/\BWq w wr/\Blk wr w.heap.size 32 #[niq n,niq C,.slice ao n cap]/\Hid (∀r∈M.take k,(r.length:Int)=C)) (fun i _=>n-(intOf i).toNat)
  case atStart=>exact⟨0,oM,rfl,hB0,bx1,by rw[jI];exact xgw (fun r hr=>by cases hr)⟩
  obtain⟨k,hk,rfl,hb,bx1,hall⟩:=hrel;have c1:=bx1.three;by_cases hlt:k<n
  ·obtain⟨b,o,ra,rn,rc,zs,rfl,hbl,hz,p1,hv⟩:=(h.below hb).row (k:=k) (by rw[HX.out];exact hlt)
   have HZ:=xgw hz;have hvl:=hv.len;have HL:=xgw hvl.1;obtain⟨-,hl2,hl3⟩:=hvl;clear hz;by_cases hrc:(rn:Int)=C
   ·go_wp2
    clear c1;go_loopw [37] (fun j wr'=>∃m:Nat,m<=rn/\j=niq m/\BWq wr wr') (fun j _=>rn-(intOf j).toNat)
    case atStart=>exact⟨0,oM,rfl,zA _ _⟩
    rename World=>wr'
    obtain⟨m,hm,rfl,hb'⟩:=hrel;by_cases hmr:m<rn
    ·obtain⟨b',z,s,a,l,c,rfl,hbl',hzk,q1,q2,hzv⟩:=(hv.below hb').cell (k:=m) (by rw[HL.out];exact hmr)
     clear hzk;go_upto_region 11 with(fail)
     refine zD ?_;intro W6 hW6;obtain⟨hB6,T6,hs6⟩:=qL hW6;have d1:=T6.two;clear q1 q2 hW6;go_wp2_with fail
     refine(zNU _ z W6 (hzv.ext (lx hB6))).mono ?_;rintro e w7 ⟨rfl,hb7⟩;go_wp2;go_roundw
     case rel=>exact⟨m+1,oM,by simp,nx (nx hb' hB6) hb7⟩
     case measure=>exact meq
    obtain rfl:m=rn:=oM;have bx1:=bx1.below hb';go_wp2;go_roundw
    case rel=>
     refine⟨k+1,oM,by simp,nx hb hb',bx1,xgw ?_⟩;rw[jD,HZ.out];intro r hr;rcases List.mem_append.1 hr with hr|hr
     exact hall.out r hr;simp at hr;rw[hr,HL.out,hrc]
    case measure=>exact meq
   go_wp2;go_ret;refine⟨?_,hb⟩;have hbad:¬ ∀r∈M,(r.length:Int)=C:=fun hh=>hrc (by rw[<-HL.out];exact hh zs (xgd HZ.out))
   rw[decide_eq_false hbad];rfl
  obtain rfl:k=n:=oM;go_wp2;go_ret;refine⟨?_,hb⟩;have:=hall.out;rw[<-HX.out,jA]at this;rw[decide_eq_true this];rfl
 have hne:¬ zBS R C M:=by
  rintro⟨a,b,c,-⟩;exact hall ⟨a,b,by rw[<-HX.out];exact c⟩
 rw[decide_eq_false hne];clear hne;by_cases hR:0<=R
 ·have hR':¬ R<0:=oM
  by_cases hC:0<=C
  ·have hn:¬ (n:Int)=R:=fun h=>hall ⟨hR,hC,h⟩
   have hC':¬ C<0:=oM;clear hall;go_enter Tryz.func85,Tryz.ntmps85;go_upto_region 1 with(fail)
   refine zD ?_;intro W0 hW0;obtain⟨hB0,bx1,hs0⟩:=qL hW0;have c1:=bx1.three;go_wp2;go_ret;exact⟨rfl,hB0⟩
  have hC':C<0:=oM;clear hall;go_enter Tryz.func85,Tryz.ntmps85;go_upto_region 1 with(fail)
  refine zD ?_;intro W0 hW0;obtain⟨hB0,bx1,hs0⟩:=qL hW0;have c1:=bx1.three;go_wp2;go_ret;exact⟨rfl,hB0⟩
 have hR':R<0:=oM;clear hall;go_enter Tryz.func85,Tryz.ntmps85;go_upto_region 1 with(fail)
 refine zD ?_;intro W0 hW0;obtain⟨hB0,bx1,hs0⟩:=qL hW0;have c1:=bx1.three;go_wp2;go_ret;exact⟨rfl,hB0⟩
theorem zDR(v:Value)(R C:Int)(M:List (List Int))(w:World)(h:zAC w v R C M):
  CPq 85 #[v] w fun e w'=>e= .returned (.bool (decide (zBS R C M)))/\BWq w w':=zGb v R C M w h.off
def zEr:Nat->List (List Int)->Bool
 |_,[]=>true
 |i,r::rs=>decide (zG9 i r.length r) && zEr (i+1) rs
theorem zQB{r:List Int}(h:¬ zG9 i r.length r):zEr i (r::rs)=false:=by
 unfold zEr;rw[decide_eq_false h,Bool.false_and]
theorem zNq{r:List Int}(h:zG9 i r.length r):zEr i (r::rs)=zEr (i+1) rs:=by
 conv=>lhs;unfold zEr
 rw[decide_eq_true h,Bool.true_and]
theorem zMZ(v:Value)(R C:Int)(M:List (List Int))(w:World)(h:zAC w v R C M):
  CPq 159 #[v] w fun e w'=>e= .returned (.bool (zEr 0 M))/\BWq w w':=by
 obtain⟨A,rfl,h⟩:=h;obtain⟨ao,n,cap,rfl,e2,e3,e4,-⟩:=id h;have HX:=xgw e2;clear e2;go_enter Tryz.func159,Tryz.ntmps159;go_upto_region 1 with(fail)
 refine zD ?_;intro W0 hW0;obtain⟨hB0,bx1,hs0⟩:=qL hW0;have c1:=bx1.three;go_wp2;clear c1;go_loopw [10] (fun i wr=>∃k:Nat,k<=n/\i=niq k/\BWq w wr/\Hid (zEr 0 M=zEr k (M.drop k))) (fun i _=>n-(intOf i).toNat)
 case atStart=>exact⟨0,oM,rfl,hB0,by rw[xgk];exact xgw rfl⟩
 obtain⟨k,hk,rfl,hb,hgo⟩:=hrel;by_cases hlt:k<n
 ·obtain⟨b,ra,rn,rc,zs,rfl,hbl,hz,p1,hv⟩:=(h.below hb).row (k:=k) (by rw[HX.out];exact hlt)
  have HZ:=xgw hz;have hvl:=hv.len;have HL:=xgw hvl.1;obtain⟨-,hl2,hl3⟩:=hvl;clear hz;go_wp2;go_loopw [17] (fun j wr'=>∃m:Nat,m<=rn/\j=niq m/\BWq wr wr'/\Hid (∀k',k'<m->k'≠k->zs.getD k' 0=0)) (fun j _=>rn-(intOf j).toNat)
  case atStart=>exact⟨0,oM,rfl,zA _ _,xgw (fun k' h=>absurd h oM)⟩
  obtain⟨m,hm,rfl,hb',hoff⟩:=hrel;by_cases hmr:m<rn
  ·obtain⟨b',z,s,a,l,c,rfl,hbl',hzk,q1,q2,hzv⟩:=(hv.below hb').cell (k:=m) (by rw[HL.out];exact hmr)
   have HZK:=xgw hzk;clear hzk;go_upto_region 7 with(fail)
   refine zD ?_;intro W6 hW6;obtain⟨hB6,T6,hs6⟩:=qL hW6;have d1:=T6.two;clear q1 q2 hW6;by_cases hki:m=k
   ·subst hki
    go_wp2;go_roundw
    case rel=>exact⟨m+1,oM,by simp,nx hb' hB6,xgw (fun k' h1 h2=>hoff.out k' oM h2)⟩
    case measure=>exact meq
   have hki':¬ (k:Int)=(m:Int):=oM;have hbn:((k:Int) !=(m:Int))=true:=by simpa using hki'
   go_wp2_with fail
   refine(zAi _ z W6 (hzv.ext (lx hB6)).weak).mono ?_;rintro e w7 ⟨rfl,hb7⟩;have hb9:=nx (nx hb' hB6) hb7;by_cases hz0:z=0
   ·rw[zBd hz0]
    go_wp2;go_roundw
    case rel=>
     refine⟨m+1,oM,by simp,hb9,xgw (fun k' h1 h2=>?_)⟩;rcases zG k' m with h3|h3
     exact hoff.out k' h3 h2;obtain rfl:k'=m:=oM;rw[zBz HZK.out,hz0]
    case measure=>exact meq
   have hc:=zCr hz0;obtain⟨k0,hk0⟩:∃k0,zAt z 0=k0:=⟨_,rfl⟩;rw[hk0]at hc ⊢
   have hkb:(k0==0)=false:=by simpa using hc
   have hkb2:(k0 !=0)=true:=by simpa using hc
   go_wp2;go_ret;refine⟨?_,nx hb hb9⟩;rw[hgo.out,zDe HZ.out,zQB (fun ho=>hz0 (by rw[<-zBz HZK.out];exact ho m (by rw[HL.out];exact hmr) oM))];rfl
  obtain rfl:m=rn:=oM;go_wp2;go_roundw
  case rel=>
   refine⟨k+1,oM,by simp,nx hb hb',xgw ?_⟩;rw[hgo.out,zDe HZ.out,zNq (by intro k' h1 h2;rw[HL.out]at h1;exact hoff.out k' h1 h2)]
  case measure=>exact meq
 obtain rfl:k=n:=oM;go_wp2;go_ret;refine⟨?_,hb⟩;rw[hgo.out,qP (zA3 HX.out)];rfl
theorem Tryz.infoI:(Tryz.prog.info? tI).map (fun i=>(i.zero,i.size,i.bytes))=some (some (.agg #[.bool false,.slice none 0 0]),2,32):=by kernel_rfl
abbrev zDb:=@Tryz.infoI
def zFl(w:World)(cells:List Value)(zs:List Int):Prop:=
 ∀(k:Nat) (z:Int),zs[k]?=some z->∃s a l c,cells[k*2]?=some (.bool s)/\cells[k*2+1]?=some (.slice a l c)/\jY w (.agg #[.bool s,.slice a l c]) z
def zEH(w:World)(base:Nat)(v:Value)(zs:List Int):Prop:=∃cells,w.ownsRow base tI 2 v zs.length cells/\zFl w cells zs
theorem zEH.nil(w:World)(base:Nat):zEH w base (.slice none 0 0) []:=⟨[],zCC _ _ _ _,fun k z h=>by simp at h⟩
theorem zEH.below{v:Value}(h:zEH w base v zs)(hb:BWq w w'):zEH w' base v zs:=by
 obtain⟨cells,h1,h2⟩:=h;refine⟨cells,h1.kept (row:=none) ⟨hb.os,hb.tape,hb.output,hb.size,fun k hk _=>hb.block k hk⟩ (by cases hv:v.ownBlock<;>simp),fun k z hk=>?_⟩;obtain⟨s,a,l,c,e1,e2,e3⟩:=h2 k z hk;exact⟨s,a,l,c,e1,e2,e3.ext (lx hb)⟩
theorem zEH.vec{v:Value}(h:zEH w base v zs):zAv w v zs:=by
 obtain⟨cells,⟨h0,h1⟩,h2⟩:=h;rcases h1 with⟨rfl,hn⟩|⟨g,cap,cur,rfl,hg,hh,hnc,hc,hs,ht⟩
 ·have:zs= []:=qE hn
  subst this;exact zAv.nil w
 refine⟨some ⟨g,0,none⟩,zs.length,cap,rfl,rfl,hnc,hc,fun _=>⟨g,rfl,cur,hh,fun k z hk=>?_⟩⟩;obtain⟨s,a,l,c,e1,e2,e3⟩:=h2 k z hk;have hk':k<zs.length:=(xge.1 hk).1;rw[<-ht,List.getElem?_take_of_lt oM]at e1 e2;exact⟨s,a,l,c,by simpa using e1,by simpa using e2,e3⟩
theorem zEH.len{v:Value}(h:zEH w base v zs):∃ao cap,v= .slice ao zs.length cap/\zs.length<=cap/\cap<=9223372036854775807:=by
 obtain⟨ao,n,cap,h1,h2,h3,h4,-⟩:=h.vec;subst h2;exact⟨ao,cap,h1,h3,h4⟩
theorem zDu{v:Value}{e:TypeId}{size:Nat}(h:w.ownsRow base e size v n xs)(he:e≠tU)(hg:w.grownBy w' v.ownBlock):zBw w w':=by
 intro b cs fz hb;have hlt:=(Array.getElem?_eq_some_iff.1 hb).1;by_cases hv:v.ownBlock=some b
 ·exfalso
  rcases h.2 with⟨rfl,-⟩|⟨g,cap,cur,rfl,-,hh,-⟩
  cases hv;simp only[Value.ownBlock,Option.some.injEq]at hv;subst hv;rw[hh]at hb;injection hb with hb
  injection hb with _ ht
  exact he ht
 have hne:∀k,v.ownBlock=some k->b≠k:=fun k hk e=>hv (by rw[hk,e])
 rw[hg.block b hlt (by
  intro hh;exact hv hh.symm)]
 exact hb
theorem zZB{w:World}{ops:Array Oper}{rest:List Oper}{a:Act}{Q:Exit->Act->World->Prop}(hgd:o.guard=none)(s x:Operand)
  (ho:o.op= .call {callee:=.builtin .append,args:=#[s,x],argTypes:=#[46,46]})
  (base:Nat) (v:Value) (zs:List Int) (hs:a.eval s=v) (hown:zEH w base v zs) (b:Nat) (c:Nat) (sn:Bool) (sa:Option Addr) (sl sc:Nat) (z:Int) (hx:a.eval x=slq b 1 c)
  (hb:Blk w b tI #[.bool sn,.slice sa sl sc]) (hz:jY w (.agg #[.bool sn,.slice sa sl sc]) z)
  (hlen:zs.length+1<=1099511627776) (hbase:base<=w.heap.size)
  (h:∀v' w',zEH w' base v' (zs++ [z])->w.grownBy w' v.ownBlock->zBw w w'->wpList Tryz.prog ops Q rest (a.put o.dst v') w'):wpList Tryz.prog ops Q (o::rest) a w:=by
 obtain⟨i0,hi,hz0,hz1,hz2⟩:=info_parts zDb;obtain⟨cells,h1,h2⟩:=hown;have hcl:cells.length=zs.length*2:=h1.1;obtain⟨c1,c2,-,-⟩:=hb.two;refine wpList_append_own w hgd s x 46 ho base tI i0 _ 2 32 zCB hi hz0 hz1 hz2 rfl oM v zs.length cells hs h1 ⟨b,0,none⟩ 1 c [.bool sn,.slice sa sl sc] hx rfl ?_ ?_ (by simp[maxLen];omega) oM hbase ?_
 ·intro j u hj
  rw[zAL];match j with
  |0=>simp at hj;subst hj;exact c1
  |1=>simp at hj;subst hj;exact c2
  |j+2=>simp at hj
 ·intro u hu
  simp at hu;rcases hu with rfl|rfl<;>rfl
 intro v' w' k1 k2 _;have hx:=zDu h1 dE k2;refine h v' w' ⟨cells++ [.bool sn,.slice sa sl sc],by simpa using k1,?_⟩ k2 hx;intro k y hk;rcases zG k zs.length with hlt|hge
 ·rw[List.getElem?_append_left hlt]at hk
  obtain⟨s',a',l',c',e1,e2,e3⟩:=h2 k y hk;exact⟨s',a',l',c',by rw[List.getElem?_append_left oM];exact e1,by rw[List.getElem?_append_left oM];exact e2,e3.ext hx⟩
 rw[List.getElem?_append_right hge]at hk;have hk0:k=zs.length:=by
  have:=(xge.1 hk).1;simp at this;omega
 subst hk0;simp at hk;subst hk;refine⟨sn,sa,sl,sc,?_,?_,hz.ext hx⟩;rw[List.getElem?_append_right oM,hcl];simp;rw[List.getElem?_append_right oM,hcl];rw[show zs.length*2+1-zs.length*2=1 by omega];rfl
theorem zEH.own{v:Value}(h:zEH w base v zs):∀g,v.ownBlock=some g->base<=g:=by
 intro g hg;obtain⟨cells,⟨h0,h1⟩,h2⟩:=h;rcases h1 with⟨rfl,hn⟩|⟨g',cap,cur,rfl,hg',-⟩
 cases hg;simp only[Value.ownBlock,Option.some.injEq]at hg;omega
theorem zEH.mono{v:Value}(h:zEH w base v zs)(hb:base'<=base):zEH w base' v zs:=by
 obtain⟨cells,⟨h0,h1⟩,h2⟩:=h;refine⟨cells,⟨h0,?_⟩,h2⟩;rcases h1 with h1|⟨g,cap,cur,e1,e2,e3⟩
 exact .inl h1;exact .inr ⟨g,cap,cur,e1,zB hb e2,e3⟩
theorem zEH.set2{v:Value}(h:zEH w base v zs)(hr:r<base)(hb:Blk w r t cs)(ht:t≠tU)(x y:Value):zEH ((w.setCell ⟨r,0,none⟩ x).setCell ⟨r,1,none⟩ y) base v zs:=by
 have hx:=hb.lext2 ht x y;obtain⟨cells,h1,h2⟩:=h;refine⟨cells,ownsRow_setCell_below (ownsRow_setCell_below h1 (a:=⟨r,0,none⟩) hr x) (a:=⟨r,1,none⟩) hr y,fun k z hk=>?_⟩;obtain⟨s,a,l,c,e1,e2,e3⟩:=h2 k z hk;exact⟨s,a,l,c,e1,e2,e3.ext hx⟩
def zHY(M:List (List Int))(n:Nat):List Int:=(List.range n).map fun k=>(M.getD k []).getD k 0
theorem zQD(M:List (List Int))(n:Nat):zHY M (n+1)=zHY M n++ [(M.getD n []).getD n 0]:=by
 unfold zHY;rw[zCi,zBe];rfl
theorem zF0(M:List (List Int))(n:Nat):(zHY M n).length=n:=by simp[zHY]
theorem zIb(v:Value)(R C:Nat)(M:List (List Int))(w:World)(h:zAC w v R C M)(hF:zBU R C M)(hR:R<=1000000)(hC:C<=1000000):
  CPq 116 #[v] w fun e w'=>∃u,e= .returned u/\zEH w' w.heap.size u (zHY M (min R C))/\BWq w w':=by
 obtain⟨A,rfl,h⟩:=h;obtain⟨ao,n,cap,rfl,e2,e3,e4,-⟩:=id h;have HX:=xgw e2;obtain⟨hF1,hF2⟩:=hF;have HF:=xgw hF2;obtain rfl:n=R:=by rw[<-e2,hF1]
 obtain⟨m,hm⟩:∃m,min n C=m:=⟨_,rfl⟩;have hmn:m<=n:=oM;have hmc:m<=C:=oM;have hmi:min (n:Int) (C:Int)=(m:Int):=oM;rw[hm];clear e2 hF1 hF2;go_enter Tryz.func116,Tryz.ntmps116;go_upto_region 2 with(fail)
 refine zD ?_;intro W0 hW0;obtain⟨hB0,bx1,hs0⟩:=qL hW0;obtain⟨c1,c2,c3,c4,c5,c6⟩:=bx1.three;go_wp2;clear c1 c2 c3 c4 c5 c6;go_loopw [3,10] (fun u iv wr=>∃k:Nat,k<=m/\iv=niq k/\zEH wr (w.heap.size+1) u (zHY M k)/\BWq w wr/\Blk wr w.heap.size 32 #[niq n,niq C,.slice ao n cap]) (fun _ iv _=>m-(intOf iv).toNat)
 case atStart=>exact⟨0,oM,rfl,zEH.nil _ _,hB0,bx1⟩
 obtain⟨k,hk,rfl,ho,hb,bx1⟩:=hrel;by_cases hlt:k<m
 ·obtain⟨c1,c2,c3,c4,c5,c6⟩:=bx1.three
  obtain⟨b,ra,rn,rc,zs,rfl,hbl,hz,p1,hv⟩:=(h.below hb).row (k:=k) (by rw[HX.out];omega);have hzl:=HF.out zs (xgd hz);have hrn:=hv.len.1;obtain rfl:rn=C:=oM;obtain⟨b',z,s,a,l,c,rfl,hbl',hzk,q1,q2,hzv⟩:=hv.cell (k:=k) oM;have hd:Hid (zHY M (k+1)=zHY M k++ [z]):=by
   rw[zQD,zBz hz,zBz hzk];exact xgw rfl
  clear hz hzk hzl;go_wp2_with (at_builtin;refine zZB rfl _ _ rfl (w.heap.size+1) _ (zHY M k) rfl (ho.below ((zA _ _).alloc (xgf _) _)) wr.heap.size 1 s a l c z rfl (qX _ _ _) (hzv.ext (lx ((zA _ _).alloc (xgf _) _))) (by rw[zF0];omega) (by have:=bx1.lt;simp;omega) ?_;intro v' w' hown hgr hxg)
  have hgr:World.grownBy (wr.alloc (.cells #[.bool s,.slice a l c] tI)) w' (Value.ownBlock u3):=hgr;have hB9:BWq w w':=(hb.alloc hb.size _).grown hgr (by have:=hb.size;simp;omega) (fun g hg=>by have:=ho.own g hg;omega);have bx9:Blk w' w.heap.size 32 #[niq n,niq rn,slq b n cap]:=
   (hgr.block _ (by have:=bx1.lt;simp;omega) (fun hh=>by have:=ho.own _ hh.symm;omega)).trans (bx1.alloc _)
  go_roundw
  case rel=>exact⟨k+1,oM,by simp,by rw[hd.out];exact hown,hB9,bx9⟩
  case measure=>exact meq
 obtain rfl:k=m:=oM;go_wp2;go_ret;exact⟨_,rfl,ho.mono (Nat.le_succ _),hb⟩
def zRz:Int->List Int->Bool
 |_,[]=>true
 |last,d::ds=>decide (0<=d) && decide (last∣d) && zRz d ds
def qAG(R C:Int)(M:List (List Int)):Bool:=decide (zBS R C M) && (zEr 0 M && zRz 1 (zHY M (min R.toNat C.toNat)))
abbrev tR:TypeId:=46
theorem Tryz.infoR:(Tryz.prog.info? tR).map (fun i=>(i.zero,i.size,i.bytes))=some (some (.slice none 0 0),1,24):=by kernel_rfl
abbrev zDc:=@Tryz.infoR
def zeroCells(n:Nat):Array Value:=madeCells (Value.agg #[.bool false,.slice none 0 0]).cells (n*2)
theorem mkI(m:Int)(n:Nat)(hm:m=n)(h:n<=1099511627776)(W:World):
  (Instr.makeSlice 46 (niq m) (niq m)).run Tryz.prog W= .ok (slq W.heap.size n n) (W.alloc (.cells (zeroCells n) tI)):=by
 subst hm;obtain⟨i0,hi,hz0,hz1,hz2⟩:=info_parts zDb;have:=zCW (P:=Tryz.prog) 46 tI i0 _ zCB hi hz0 .i64 .i64 n n (xgf _) (by rw[hz2];omega) oM W;rw[this,hz1];rfl
theorem zHt(w:World)(n:Nat):jJ (w.alloc (.cells (zeroCells n) tI)) w.heap.size (List.replicate n 0):=by
 refine⟨zeroCells n,heap_alloc_new w _,fun k z hk=>?_⟩;have hk':=(xge.1 hk);obtain⟨h1,h2⟩:=hk';rw[List.length_replicate]at h1;rw[List.getElem_replicate]at h2;subst h2;refine⟨false,none,0,0,?_,?_,zF4 _⟩
 ·unfold zeroCells madeCells
  rw[Array.getElem?_eq_getElem (by simp;omega)];simp[Value.cells]
 unfold zeroCells madeCells;rw[Array.getElem?_eq_getElem (by simp;omega)];have:(k*2+1)%2=1:=oM;simp[Value.cells,this]
def zBP(C:Nat)(bs:List Nat):List Value:=bs.map fun b=>slq b C C
structure qC(w:World)(base:Nat)(A:Value)(C:Nat)(bs:List Nat)(M:List (List Int)):Prop where
 own:w.ownsRow base tR 1 A bs.length (zBP C bs)
 len:M.length=bs.length
 row:∀(k:Nat) (b:Nat) (r:List Int),bs[k]?=some b->M[k]?=some r->base<=b/\r.length=C/\jJ w b r
 nodup:bs.Nodup
 cb:C<=1099511627776
theorem qC.below(h:qC w base A C bs M)(hb:BWq w w'):qC w' base A C bs M:=
 ⟨h.own.kept (row:=none) ⟨hb.os,hb.tape,hb.output,hb.size,fun k hk _=>hb.block k hk⟩ (by cases hv:A.ownBlock<;>simp),h.len,fun k b r h1 h2=>by
  obtain⟨e1,e2,e3⟩:=h.row k b r h1 h2;exact⟨e1,e2,e3.below hb⟩,h.nodup,h.cb⟩
theorem qC.keep(h:qC w base A C bs M)(e:∀k,base<=k->w'.heap[k]?=w.heap[k]?)(x:zBw w w'):qC w' base A C bs M:=by
 refine⟨⟨h.own.1,?_⟩,h.len,fun k b r h1 h2=>by
  obtain⟨e1,e2,e3⟩:=h.row k b r h1 h2;exact⟨e1,e2,e3.old (e _ e1) x⟩,h.nodup,h.cb⟩
 rcases h.own.2 with h1|⟨g,cap,cur,e1,e2,e3⟩
 exact .inl h1;exact .inr ⟨g,cap,cur,e1,e2,(e _ e2).trans e3.1,e3.2⟩
theorem Blk.put3{c2:Value}(h:Blk w r T #[c0,c1,c2])(x y z:Value):Blk (((w.setCell ⟨r,0,none⟩ x).setCell ⟨r,1,none⟩ y).setCell ⟨r,2,none⟩ z) r T #[x,y,z]:=by
 simpa using((h.set_ 0 x).set_ 1 y).set_ 2 z
theorem Blk.lext3(h:Blk w r T cs)(hne:T≠tU)(x y z:Value):zBw w (((w.setCell ⟨r,0,none⟩ x).setCell ⟨r,1,none⟩ y).setCell ⟨r,2,none⟩ z):=
 ((h.lext hne 0 _).trans ((h.set_ 0 _).lext hne 1 _)).trans (((h.set_ 0 _).set_ 1 _).lext hne 2 _)
theorem zAf(w:World)(b k:Nat)(x y z:Value)(h:k≠b):(((w.setCell ⟨b,0,none⟩ x).setCell ⟨b,1,none⟩ y).setCell ⟨b,2,none⟩ z).heap[k]?=w.heap[k]?:=
 (zY _ b 2 k z h).trans (yO w b 0 1 k x y h)
theorem qC.mono(h:qC w base A C bs M)(hb:base'<=base):qC w base' A C bs M:=by
 refine⟨⟨h.own.1,?_⟩,h.len,fun k b r h1 h2=>by
  obtain⟨e1,e2,e3⟩:=h.row k b r h1 h2;exact⟨oM,e2,e3⟩,h.nodup,h.cb⟩
 rcases h.own.2 with h1|⟨g,cap,cur,e1,e2,e3⟩
 exact .inl h1;exact .inr ⟨g,cap,cur,e1,zB hb e2,e3⟩
theorem qC.fits(h:qC w base A C bs M):zBU bs.length C M:=by
 refine⟨h.len,fun r hr=>?_⟩;obtain⟨k,hk,e⟩:=qW hr;have hk':k<bs.length:=by have:=h.len;omega
 exact(h.row k bs[k] r (xga hk') (by rw[xga hk,e])).2.1
theorem qC.rows(h:qC w base A C bs M):zBq w A M:=by
 rcases h.own.2 with⟨rfl,h0⟩|⟨g,cap,cur,rfl,e2,e3,e4,e5,e6,e7⟩
 ·have:M= []:=qE (by rw[h.len];exact h0)
  subst this;exact zBq.nil w
 refine⟨some ⟨g,0,none⟩,bs.length,cap,rfl,h.len,e4,e5,fun _=>⟨g,cur,rfl,e3,fun k zs hk=>?_⟩⟩;have hkM:=(xge.1 hk).1;have hkb:k<bs.length:=by have:=h.len;omega
 obtain⟨f1,f2,f3⟩:=h.row k bs[k] zs (xga hkb) hk;refine⟨slq (bs[k]) C C,?_,some ⟨bs[k],0,none⟩,C,C,rfl,f2,xgf _,by have:=h.cb;omega,fun _=>⟨_,rfl,f3⟩⟩;have:(zBP C bs)[k]?=some (slq (bs[k]) C C):=by simp[zBP,hkb]
 rw[<-e7,List.getElem?_take_of_lt oM]at this;simpa using this
def zWi(w:World)(base:Nat)(v:Value)(R C:Nat)(bs:List Nat)(M:List (List Int)):Prop:=bs.length=R/\∃A,v= .agg #[niq R,niq C,A]/\qC w base A C bs M
theorem zWi.mat{v:Value}{R:Nat}(h:zWi w base v R C bs M):zAC w v R C M/\zBU R C M:=by
 obtain⟨rfl,A,rfl,h⟩:=h;exact⟨⟨A,rfl,h.rows⟩,h.fits⟩
theorem zBU.valid{R:Nat}(h:zBU R C M):zBS R C M:=⟨oM,oM,by rw[h.1],fun r hr=>by rw[h.2 r hr]⟩
def zEm(w:World)(R C:Nat)(M:List (List Int))(e:Ending)(w':World):Prop:=∃v bs,e= .returned v/\zWi w' w.heap.size v R C bs M/\BWq w w'
theorem Tryz.sizeM:(Tryz.prog.info? 32).map (·.size)=some 3:=by kernel_rfl
abbrev zFQ:=@Tryz.sizeM
theorem zAZ{fn:Func}{a:Act}{W:World}{Q:Ending->World->Prop}{r:Nat}{x y z:Value}{p:Tmp}(h:fn.results=#[.cell p 32])(hd:a.defers= [])
  (hp:a.tmps.getD p undef=ptq r 0) (hb:Blk W r 32 #[x,y,z]) (hQ:Q (.returned (.agg #[x,y,z])) W):bodyPost Tryz.prog fn Q .ret a W:=
 bodyPost_ret (results_cell_row h _ W r _ _ _ _ hp hb zC2 rfl (by rw[zFQ];rfl)) hd hQ
theorem zG2{v:Value}{r:List Int}(h:w.ownsRow base tR 1 v n xs)(hr:jJ w b r):some b≠v.ownBlock:=by
 intro e;rcases h.2 with⟨rfl,-⟩|⟨g,cap,cur,rfl,-,hh,-⟩
 cases e;simp only[Value.ownBlock,Option.some.injEq]at e;subst e;obtain⟨cs,h1,-⟩:=hr;rw[hh]at h1;injection h1 with h1
 injection h1 with _ ht
 exact absurd ht dE
theorem qAQ{w:World}{ops:Array Oper}{rest:List Oper}{a:Act}{Q:Exit->Act->World->Prop}(hgd:o.guard=none)(s x:Operand)
  (ho:o.op= .call {callee:=.builtin .append,args:=#[s,x],argTypes:=#[30,30]})
  (base:Nat) (v:Value) (C:Nat) (bs:List Nat) (M:List (List Int)) (hs:a.eval s=v) (hown:qC w base v C bs M) (b c nb:Nat) (r:List Int) (hx:a.eval x=slq b 1 c)
  (hb:Blk w b tR #[slq nb C C]) (hr:jJ w nb r) (hrl:r.length=C) (hnb:base<=nb) (hfr:∀g∈bs,g≠nb)
  (hlen:bs.length+1<=1099511627776) (hbase:base<=w.heap.size)
  (h:∀v' w',qC w' base v' C (bs++ [nb]) (M++ [r])->w.grownBy w' v.ownBlock->zBw w w'->wpList Tryz.prog ops Q rest (a.put o.dst v') w'):wpList Tryz.prog ops Q (o::rest) a w:=by
 obtain⟨i0,hi,hz0,hz1,hz2⟩:=info_parts zDc;have c0:=hb.cell 0;refine wpList_append_own w hgd s x 30 ho base tR i0 _ 1 24 zAx hi hz0 hz1 hz2 rfl oM v bs.length _ hs hown.own ⟨b,0,none⟩ 1 c [slq nb C C] hx rfl ?_ ?_ (by simp[maxLen];omega) oM hbase ?_
 ·intro j u hj
  rw[zAL];match j with
  |0=>simp at hj;subst hj;exact c0
  |j+1=>simp at hj
 ·intro u hu
  simp at hu;subst hu;rfl
 intro v' w' k1 k2 _;have hx:=zDu hown.own dE k2;have hkeep:∀g q,jJ w g q->jJ w' g q:=fun g q hq=>hq.old (k2.block g hq.lt (zG2 hown.own hq)) hx
 refine h v' w' ⟨?_,by simp[hown.len],?_,?_,hown.cb⟩ k2 hx
 ·have:zBP C (bs++ [nb])=zBP C bs++ [slq nb C C]:=by simp[zBP]
  rw[this];simpa using k1
 ·intro k g q hg hq
  rcases zG k bs.length with hlt|hge
  ·rw[List.getElem?_append_left hlt]at hg
   rw[List.getElem?_append_left (by rw[hown.len];exact hlt)]at hq;obtain⟨f1,f2,f3⟩:=hown.row k g q hg hq;exact⟨f1,f2,hkeep _ _ f3⟩
  rw[List.getElem?_append_right hge]at hg;rw[List.getElem?_append_right (by rw[hown.len];exact hge),hown.len]at hq;have hk0:k-bs.length=0:=by
   have:=(xge.1 hg).1;simp at this;omega
  rw[hk0]at hg hq;simp at hg hq;subst hg;subst hq;exact⟨hnb,hrl,hkeep _ _ hr⟩
 rw[yT];refine⟨hown.nodup,by simp,fun x hx y hy=>?_⟩;simp at hy;subst hy;exact hfr x hx
def zDU(R C:Nat):List (List Int):=List.replicate R (List.replicate C 0)
theorem zGF(R C:Nat)(w:World)(hR:R<=1000000)(hC:C<=1000000):
  CPq 52 #[niq R,niq C] w (zEm w R C (zDU R C)):=by
 have hmk:=fun W=>mkI (C:Int) C rfl oM W
 go_enter Tryz.func52,Tryz.ntmps52;go_upto_block 0 with(fail)
 refine zD ?_;intro W0 hW0;obtain⟨hB0,br,bA,hs0⟩:=zAj hW0;go_wp2;go_loopw [5,6] (fun A iv wr=>∃(k:Nat) (bs:List Nat),k<=R/\iv=niq k/\qC wr (w.heap.size+1) A C bs (zDU k C)/\BWq w wr/\Blk wr w.heap.size 32 #[niq 0,niq 0,.slice none 0 0]) (fun _ iv _=>R-(intOf iv).toNat)
 case atStart=>
  refine⟨0,[],oM,rfl,⟨⟨by simp[zBP],.inr ⟨w.heap.size+1,0,#[],rfl,xgf _,bA,xgf _,by simp[maxLen],rfl,rfl⟩⟩,rfl,fun k b r h=>by simp at h,by simp,oM⟩,hB0,br⟩
 obtain⟨k,bs,hk,rfl,ho,hb,br⟩:=hrel;have hbl:bs.length=k:=by rw[<-ho.len];simp[zDU]
 by_cases hlt:k<R
 ·have hmk:=hmk wr
  have hb2:BWq wr ((wr.alloc (.cells (zeroCells C) tI)).alloc (.cells #[slq wr.heap.size C C] tR)):=((zA _ _).alloc (xgf _) _).alloc sI _;have hblk:Blk ((wr.alloc (.cells (zeroCells C) tI)).alloc (.cells #[slq wr.heap.size C C] tR)) (wr.heap.size+1) tR #[slq wr.heap.size C C]:=by
   simpa using Blk.new (wr.alloc (.cells (zeroCells C) tI)) tR #[slq wr.heap.size C C]
  have hrow:=(zHt wr C).below ((zA (wr.alloc (.cells (zeroCells C) tI)).heap.size _).alloc (xgf _) (.cells #[slq wr.heap.size C C] tR));have hfr:∀g∈bs,g≠wr.heap.size:=by
   intro g hg;obtain⟨j,hj,e⟩:=qW hg;have:=(ho.row j g _ (by rw[xga hj,e]) (xga (by rw[ho.len];exact hj))).2.2.lt;omega
  have hsz:=hb.size;have hbr:=br.lt;have ho2:=ho.below hb2;have hxx:=lx hb2;go_wp2_with (at_builtin;refine qAQ rfl _ _ rfl (w.heap.size+1) u5 C bs (zDU k C) rfl ho2 (wr.heap.size+1) 1 wr.heap.size (List.replicate C 0) rfl hblk hrow sI oM hfr oM (by simp;omega) ?_;intro v' w' hown hgr hxg)
  have hown':∀g,u5.ownBlock=some g->w.heap.size+1<=g:=by
   intro g hg;rcases ho.own.2 with⟨rfl,-⟩|⟨g',cap,cur,rfl,h1,-⟩
   cases hg;simp only[Value.ownBlock,Option.some.injEq]at hg;omega
  have hB9:BWq w w':=(nx hb hb2).grown hgr (by simp;omega) (fun g hg=>by have:=hown' g hg;omega);have br9:=(hgr.block _ (by simp;omega) (fun hh=>by have:=hown' _ hh.symm;omega)).trans (br.below hb2);go_roundw
  case rel=>
   refine⟨k+1,bs++ [wr.heap.size],oM,by simp,?_,hB9,br9⟩;have:zDU (k+1) C=zDU k C++ [List.replicate C 0]:=by unfold zDU;rw[List.replicate_succ']
   rw[this];exact hown
  case measure=>exact meq
 obtain rfl:k=R:=oM;have c1:=br.three;obtain⟨ao,an,ac,rfl,a1,a2,a3,-⟩:=id ho.rows;have hsz:=hb.size;go_wp2;refine zAZ rfl rfl rfl (br.put3 _ _ _) ⟨_,bs,rfl,⟨hbl,_,rfl,?_⟩,yJ (yJ (yJ hb (xgf _) 0 _) (xgf _) 1 _) (xgf _) 2 _⟩;exact(ho.keep (fun k hk=>zAf _ _ k _ _ _ oM) (br.lext3 dE _ _ _)).mono (Nat.le_succ _)
theorem zE9(z:Int):zAK (fun w v=>jY w v z):=fun _ _ _ e h=>h.ext (lx e)
theorem zF5(x:Value):zAK (fun _ v=>v=x):=fun _ _ _ _ h=>h
theorem zCc(R C:Int)(M:List (List Int)):zAK (fun w v=>zAC w v R C M):=fun _ _ _ e h=>h.below e
theorem zBG(zs:List Int):zAK (fun w v=>zAv w v zs):=fun _ _ _ e h=>h.below e
def zIm(N:Nat)(vs:List VS):Bool:=decide (vs.map (·.slot)).Nodup && decide (vs.map (·.op)).Nodup && (vs.map (·.slot)).all (fun s=>decide (s<N))
structure RV(W:World)(T0:Array Value)(vs:List VS)(L:Array Bool)(T:Array Value)(w:World):Prop where
 wf:zIm T0.size vs=true
 lv:∀s∈vs,zAK s.P
 size:T.size=T0.size
 keep:∀j,(∀s∈vs,s.slot≠j)->T[j]?=T0[j]?
 bel:BWq W w
 val:∀s∈vs,L[s.op]?=some true->∃v,T[s.slot]?=some v/\s.P w v
section
variable {W:World} {T0:Array Value} {vs:List VS} {L:Array Bool} {T:Array Value} {w w':World}
theorem RV.start(hwf:zIm T0.size vs=true:=by kernel_rfl)(hv:∀s∈vs,zAK s.P:=by repeat' (first|exact zE9 _|exact zF5 _|exact zCc _ _ _|exact zBG _|assumption|refine xgm.2 ⟨?_,?_⟩|exact xgn _)):RV W T0 vs (Array.replicate n false) T0 W.drew:=
 ⟨hwf,hv,rfl,fun _ _=>rfl,dr _,fun s _ h=>by
  rw[Array.getElem?_replicate]at h;split at h<;>simp at h⟩
theorem RV.world(h:RV W T0 vs L T w)(hb:BWq w w'):RV W T0 vs L T w':=
 ⟨h.wf,h.lv,h.size,h.keep,nx h.bel hb,fun s hs hl=>by
  obtain⟨v,h1,h2⟩:=h.val s hs hl;exact⟨v,h1,h.lv s hs _ _ _ hb h2⟩⟩
theorem RV.value{v:Value}(h:RV W T0 vs L T w)(s:VS)(hs:s∈vs)(hk:s.op=k)(hP:s.P w v):RV W T0 vs (L.setIfInBounds k true) (T.setIfInBounds s.slot v) w:=by
 subst hk;have hwf:=h.wf;unfold zIm at hwf;simp only[Bool.and_eq_true,decide_eq_true_eq,List.all_eq_true]at hwf;obtain⟨⟨w1,w2⟩,w3⟩:=hwf;have hslot:s.slot<T0.size:=w3 _ (List.mem_map.2 ⟨s,hs,rfl⟩);refine⟨h.wf,h.lv,by simp[h.size],fun j h1=>by rw[xgc (h1 s hs)];exact h.keep j h1,h.bel,?_⟩;intro t ht hl;by_cases he:t=s
 ·subst he
  exact⟨v,by rw[Array.getElem?_setIfInBounds_self_of_lt (by rw[h.size];exact hslot)],hP⟩
 have n1:t.op≠s.op:=fun e=>he (yI w2 ht hs e)
 have n2:t.slot≠s.slot:=fun e=>he (yI w1 ht hs e)
 obtain⟨u,h1,h2⟩:=h.val t ht (jT hl (qD n1));exact⟨u,by rw[xgc (qD n2)];exact h1,h2⟩
theorem RV.v{s:VS}(h:RV W T0 vs L T w)(hs:s∈vs)(hl:L[s.op]?=some true):∃v,T[s.slot]?=some v/\s.P w v:=h.val s hs hl
theorem RV.y{v:Value}(h:RV W T0 vs L T w){s:VS}(hs:s∈vs)(hP:s.P w v)(hk:s.op=k:=by rfl):RV W T0 vs (L.setIfInBounds k true) (T.setIfInBounds s.slot v) w:=h.value s hs hk hP
theorem RV.cell{o:Nat}{v:Value}(h:RV W T0 vs L T w)(hc:W.cell? ⟨b,o,none⟩=some v):w.cell? ⟨b,o,none⟩=some v:=jL hc h.bel
end
def zHT(w:World)(v:Value)(ls:List Int):Prop:=
 ∃ao n cap,v= .slice ao n cap/\ls.length=n/\n<=cap/\cap<=9223372036854775807/\(∀z∈ls,-9223372036854775808<=z/\z<=9223372036854775807)∧
  (ls≠ []->∃(b:Nat) (cs:Array Value),ao=some ⟨b,0,none⟩/\w.heap[b]?=some (.cells cs 2 (0,0))/\∀(k:Nat) (z:Int),ls[k]?=some z->cs[k]?=some (niq z))
theorem zHT.below{v:Value}(h:zHT w v ls)(hb:BWq w w'):zHT w' v ls:=by
 obtain⟨ao,n,cap,h1,h2,h3,h4,h5,h6⟩:=h;refine⟨ao,n,cap,h1,h2,h3,h4,h5,fun hn=>?_⟩;obtain⟨b,cs,e1,e2,e3⟩:=h6 hn;exact⟨b,cs,e1,(hb.block _ (Array.getElem?_eq_some_iff.1 e2).1).trans e2,e3⟩
theorem zHT.cell(h:zHT w (.slice ao n cap) ls)(hk:k<ls.length):
  ∃b z,ao=some ⟨b,0,none⟩/\b<w.heap.size/\ls[k]?=some z/\w.cell? ⟨b,k,none⟩=some (niq z)/\-9223372036854775808<=z/\z<=9223372036854775807:=by
 obtain⟨ao',n',cap',h1,h2,h3,h4,h5,h6⟩:=h;injection h1 with e1 e2 e3
 subst e1;obtain⟨b,cs,e,hr,hc⟩:=h6 (by rintro rfl;simp at hk);have hz:=xga hk;have:=h5 _ (xgd hz);exact⟨b,_,e,(Array.getElem?_eq_some_iff.1 hr).1,hz,(cell_of_row w b k cs _ _ hr).trans (hc k _ hz),this.1,this.2⟩
theorem zOc(v1 v2:Value)(xs ys:List Int)(w:World)(h1:zAv w v1 xs)(h2:zAv w v2 ys):
  CPq 82 #[v1,v2] w fun e w'=>e= .returned (.bool (decide (xs=ys)))/\BWq w w':=by
 obtain⟨ao,n,cap,rfl,-⟩:=id h1;obtain⟨bo,m,bcap,rfl,-⟩:=id h2;obtain⟨ans,ha⟩:∃ans,decide (xs=ys)=ans:=⟨_,rfl⟩;have hc:∀W,zAv W (.slice ao n cap) xs->zAv W (.slice bo m bcap) ys->CPq 79 #[.slice ao n cap,.slice bo m bcap] W fun e w'=>e= .returned (.bool ans)/\BWq W w':=fun W k1 k2=>by
  have:=zJv _ _ xs ys W k1 k2;rwa[ha]at this
 rw[ha];clear ha;go_enter Tryz.func82,Tryz.ntmps82;go_wp2_with fail
 refine(hc w h1 h2).mono ?_;rintro e w1 ⟨rfl,hb⟩;go_wp2;go_ret;exact⟨rfl,hb⟩
end Go.Proofs.YtkidaebmhlijlaaGreat
