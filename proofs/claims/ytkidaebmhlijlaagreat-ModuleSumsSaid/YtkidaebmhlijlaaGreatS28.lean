/- torsionlaw16.ModuleSums: whatever the input, it returns true, and the input reads as it did. No conditions. -/
import Derived.Test.YtkidaebmhlijlaaGreatS26
import Derived.Test.YtkidaebmhlijlaaGreatS27
set_option linter.unusedVariables false
set_option linter.unusedSimpArgs false
set_option linter.unusedSectionVars false
set_option maxHeartbeats 16000000
set_option maxRecDepth 100000
variable{L L' L1 L1' L2 L2':(Nat->Int)->Prop}{cs:Array Go.Value}{a1 ans:Bool}{a b z:Int}{M N:List (List Int)}{ts:List Int}{C Q R e e' f h m r r1 r2:Nat}{x:Nat->Int}{c c':Nat->Nat}{A B G P:Nat->Nat->Int}{T:Go.TypeId}{v:Go.Value}{W w w':Go.World}
namespace Go.Proofs.YtkidaebmhlijlaaGreat
open Go.RowKit
def Bd(C e:Nat)(L:(Nat->Int)->Prop):Prop:=∀m G,HB C m G L->leM (2^e) m C G
def MX(C e:Nat)(L:(Nat->Int)->Prop)(w:World)(v:Value):Prop:=∃R M,zAO w v (R:Nat) (C:Nat) M/\zBc R C M/\R<=3/\leM (2^e) R C (ent M)/\∀x,yC R C (ent M) x↔L x
theorem zGt(C e:Nat)(L:(Nat->Int)->Prop):zAQ (MX C e L):=fun _ _ _ b ⟨R,M,h1,h2⟩=>⟨R,M,h1.below b,h2⟩
theorem MX.below(h:MX C e L w v)(b:Below w.heap.size w w'):MX C e L w' v:=zGt _ _ _ _ _ _ b h
theorem BX.below(h:BX C L w v)(b:Below w.heap.size w w'):BX C L w' v:=zRW _ _ _ _ _ b h
theorem MX.agg(h:MX C e L w v):∃(R:Nat) (o:Option Addr) (n k:Nat),v= .agg #[.int .i64 R,.int .i64 C,.slice o n k]:=by
 obtain⟨R,M,h1,-⟩:=h;obtain⟨o,n,k,rfl⟩:=h1.agg;exact⟨R,o,n,k,rfl⟩
theorem BX.agg(h:BX C L w v):∃(R:Nat) (o:Option Addr) (n k:Nat),v= .agg #[.int .i64 R,.int .i64 C,.slice o n k]:=by
 obtain⟨R,G,-,h1⟩:=h;obtain⟨o,n,k,rfl⟩:=h1.agg;exact⟨R,o,n,k,rfl⟩
theorem BX.mx(h:BX C L w v)(hC:C<=3)(hb:Bd C e L):MX C e L w v:=by
 obtain⟨m,G,h1,h2⟩:=h;exact⟨m,_,h2,jJ _ _ _,zB h1.le_cols hC,fun a ha b hb'=>by rw[jM ha hb'];exact hb m G h1 a ha b hb',fun x=>(yC.congr (fun a ha b hb=>jM ha hb) x).trans (h1.iff x).symm⟩
theorem BX.of(h:BX C L w v)(e:∀x,L x↔L' x):BX C L' w v:=by
 obtain⟨m,G,h1,h2⟩:=h;exact⟨m,G,h1.of e,h2⟩
theorem MX.mono(h:MX C e L w v)(k:e<=e'):MX C e' L w v:=by
 obtain⟨R,M,h1,h2,h3,h4,h5⟩:=h;exact⟨R,M,h1,h2,h3,h4.mono (qE dE k),h5⟩
theorem Bd.mono(h:Bd C e L)(k:e<=e'):Bd C e' L:=fun m G hg=>(h m G hg).mono (qE dE k)
theorem Bd.of(h:Bd C e L)(k:∀x,L x↔L' x):Bd C e L':=fun m G hg=>h m G (hg.of fun x=>(k x).symm)
theorem zHT(e:Nat):1<=2^e:=qP dE
theorem zFL(e:Nat):2*2^e<=2^(e+1):=by rw[qF];omega
theorem zJZ.congr{M M':(Nat->Int)->Prop}(h:∀x,L x↔L' x)(k:∀x,M x↔M' x)(x:Nat->Int):zJZ C L M x↔zJZ C L' M' x:=
 ⟨fun⟨u,v,a,b,c⟩=>⟨u,v,(h u).1 a,(k v).1 b,c⟩,fun⟨u,v,a,b,c⟩=>⟨u,v,(h u).2 a,(k v).2 b,c⟩⟩
theorem zSY(he:e<=2000)(hF:zBc R C M)(hA:leM (2^e) R C (ent M)):∀r∈M,∀z∈r,Sm z:=zLw (h:=2^e) (e:=e+1) (zFL e) oM hF hA
theorem zEM(he:e<=1999)(hF:zBc R C M)(hR:R<=6)(hC:C<=3)(hA:leM (2^e) R C (ent M))(v:Value)(w:World)(h:zAO w v R C M):
  Calls Tryz.prog 59 #[v] w fun e w'=>∃v,e= .returned v/\zHf R C (ent M) w' v/\Below w.heap.size w w':=
 zVi (h:=2^e) (e:=e+1) (zHT e) (zFL e) oM v M R C w h hF hR hC hA
theorem zWE(hF:zBc R C M)(hF':zBc Q C N)(hA:leM h R C (ent M))(hB:leM h Q C (ent N)):leM h (R+Q) C (ent (M++N)):=fun a ha b hb=>by
 rw[zIb hF hF'];unfold zJS;split;exact hA a (by assumption) b hb;exact hB _ oM b hb
theorem zYX(v1 v2:Value)(w:World)(hC:C<=3)(he:e<=1999)(h1:MX C e L1 w v1)(h2:MX C e L2 w v2):
  Calls Tryz.prog 16 #[v1,v2] w fun e w'=>∃v,e= .returned (.tuple #[v,.int .i64 0])/\BX C (zJZ C L1 L2) w' v/\Below w.heap.size w w':=by
 obtain⟨R,M,m1,f1,r1,b1,s1⟩:=h1;obtain⟨Q,N,m2,f2,r2,b2,s2⟩:=h2;refine(zTs v1 v2 R Q C C M N w m1 m2 f1 f2 oM oM oM (zSY oM f1 b1) (zSY oM f2 b2) rfl fun v w h=>zEM he (zN9 f1 f2) oM hC (zWE f1 f2 b1 b2) v w h).mono ?_;rintro ee w' ⟨v,rfl,⟨r,c,G,hl,hm⟩,hb⟩;exact⟨v,rfl,⟨r,G,hl.hb.of fun x=>(yC.congr (fun a ha b hb=>zIb f1 f2 b) x).trans ((yC.stk x).trans (zJZ.congr s1 s2 x)),hm⟩,hb⟩
theorem zGb(hb:Bd C e L)(s:∀x,yC R C (ent M) x↔L x)(h:zIN R C r c (ent M) G):leM (2^e) r C G:=hb r G (h.hb.of s)
theorem zUu(v1 v2:Value)(w:World)(hC:C<=3)(he:e<=1999)(h1:MX C e L1 w v1)(h2:MX C e L2 w v2)(hb1:Bd C e L1)(hb2:Bd C e L2):
  Calls Tryz.prog 18 #[v1,v2] w fun e w'=>∃v,e= .returned (.tuple #[v,.int .i64 0])/\BX C (zVJ L1 L2) w' v/\Below w.heap.size w w':=by
 obtain⟨R,M,m1,f1,r1,b1,s1⟩:=h1;obtain⟨Q,N,m2,f2,r2,b2,s2⟩:=h2;refine(zPV v1 v2 R Q C C (2^e) (e+1) M N w m1 m2 f1 f2 hC rfl (zHT e) (zFL e) oM (fun v w h=>zEM he f1 oM hC b1 v w h) (fun v w h=>zEM he f2 oM hC b2 v w h) (fun r c G h=>zGb hb1 s1 h) (fun r c G h=>zGb hb2 s2 h)).mono ?_;rintro ee w' ⟨v,rfl,hv,hb⟩;exact⟨v,rfl,hv.of fun x=>and_congr (s1 x) (s2 x),hb⟩
theorem zOD(hb:Bd C e L)(s:∀x,yC R C (ent M) x↔L x)(h:zIN R C r c (ent M) G):HNw r C (e+1) (genM r C G):=by
 obtain⟨κ,hκ⟩:=h.hb.hnf;refine⟨jJ _ _ _,⟨r,κ,hκ.congr fun a ha b hb=>(jM ha hb).symm⟩,fun a ha b hb'=>?_⟩;rw[jM ha hb'];have h1:=zGb hb s h a ha b hb';have h2:=zFL e;have h3:=zHT e;omega
theorem zSb(s1:∀x,yC R C (ent M) x↔L1 x)(s2:∀x,yC Q C (ent N) x↔L2 x):(∀i,i<R->yC Q C (ent N) (ent M i))↔∀x,L1 x->L2 x:=
 ⟨fun h x hx=>(s2 x).1 (yC.sub h ((s1 x).2 hx)),fun h i hi=>(s2 _).2 (h _ ((s1 _).1 (yC.row _ hi)))⟩
theorem zDm(v1 v2:Value)(w:World)(hC:C<=3)(he:e<=1998)(h1:MX C e L1 w v1)(h2:MX C e L2 w v2)(hb2:Bd C e L2)(ha:ans=true↔∀x,L1 x->L2 x):
  Calls Tryz.prog 25 #[v1,v2] w fun e w'=>∃v,e= .returned v/\v= .bool ans/\Below w.heap.size w w':=by
 obtain⟨R,M,m1,f1,r1,b1,s1⟩:=h1;obtain⟨Q,N,m2,f2,r2,b2,s2⟩:=h2;exact zNN (e:=e+1) (k:=2^e) v1 v2 M N w m1 m2 f1 f2 oM oM rfl (fun v w h=>zEM oM f2 oM hC b2 v w h) (fun r c G h=>zOD hb2 s2 h) oM (qE dE oM) b1 (ha.trans (zSb s1 s2).symm)
theorem zQp(v1 v2:Value)(x:Nat->Int)(w:World)(hC:C<=3)(he:e<=1998)(h1:MX C e L w v1)(h2:zBm w v2 (yL C x))(hb:Bd C e L)(hx:∀b,b<C->(x b).natAbs<=2^e)(ha:ans=true↔L x):
  Calls Tryz.prog 35 #[v1,v2] w fun e w'=>∃v,e= .returned v/\v= .bool ans/\Below w.heap.size w w':=by
 obtain⟨R,M,m1,f1,r1,b1,s1⟩:=h1;exact zKn (e:=e+1) (k:=2^e) v1 v2 M x w m1 f1 h2 oM (fun v w h=>zEM oM f1 oM hC b1 v w h) (fun r c G h=>zOD hb s1 h) oM (qE dE oM) hx (ha.trans (s1 x).symm)
theorem zWv(v1 v2:Value)(w:World)(hC:C<=3)(he:e<=1998)(h1:MX C e L1 w v1)(h2:MX C e L2 w v2)(ha:ans=true↔∀x,L1 x↔L2 x):
  Calls Tryz.prog 27 #[v1,v2] w fun e w'=>∃v,e= .returned v/\v= .bool ans/\Below w.heap.size w w':=by
 obtain⟨R,M,m1,f1,r1,b1,s1⟩:=h1;obtain⟨Q,N,m2,f2,r2,b2,s2⟩:=h2;exact zNI v1 v2 R Q C C M N w m1 m2 f1 f2 oM rfl (fun v w h=>zEM oM f1 oM hC b1 v w h) (fun v w h=>zEM oM f2 oM hC b2 v w h) (ha.trans (forall_congr' fun x=>⟨fun h=>(s1 x).trans (h.trans (s2 x).symm),fun h=>(s1 x).symm.trans (h.trans (s2 x))⟩))
theorem zSg(h:e<=117):8*2^e<=SW:=by
 rw[zMk,show(120:Nat)=117+3 from rfl,yQ];have:=qE (show 0<2 by decide) h;omega
theorem zQV.of(h:zQV C L1 L2 b ts)(h1:∀x,L1 x↔L1' x)(h2:∀x,L2 x↔L2' x):zQV C L1' L2' b ts:=by
 obtain⟨m,k,r,P,Q,K,F,a1,a2,a3⟩:=h;exact⟨m,k,r,P,Q,K,F,a1.of h1,a2.of h2,a3⟩
theorem zS6.of(h:zS6 C L1 L2 z)(h1:∀x,L1 x↔L1' x)(h2:∀x,L2 x↔L2' x):zS6 C L1' L2' z:=by
 obtain⟨m,c,c',P,Q,a1,a2,a3⟩:=h;exact⟨m,c,c',P,Q,a1.of h1,a2.of h2,a3⟩
theorem zXZ.imp{P Q:Int->List Int->Prop}(h:zXZ P w v)(k:∀b ts,P b ts->Q b ts):zXZ Q w v:=by
 obtain⟨b,ts,o,n,c,h1,h2,h3⟩:=h;exact⟨b,ts,o,n,c,h1,h2,k _ _ h3⟩
theorem zX9(v1 v2:Value)(w:World)(hC:C<=3)(he:e<=1998)(h1:MX C e L1 w v1)(h2:MX C e L2 w v2)(hb1:Bd C e L1)(hb2:Bd C f L2)(hf:f<=117)(hfe:f<=e+1)(ha:a1=true↔∀x,L2 x->L1 x):
  Calls Tryz.prog 22 #[v1,v2] w fun e w'=>∃v k,e= .returned (.tuple #[v,.int .i64 k])/\zYL a1 (zQV C L1 L2) w' v k/\Below w.heap.size w w':=by
 obtain⟨R,M,m1,f1,r1,b1,s1⟩:=h1;obtain⟨Q,N,m2,f2,r2,b2,s2⟩:=h2;refine(zRi v1 v2 R Q C (2^e) (2^f) (e+1) M N w m1 m2 f1 f2 hC (zHT e) (zFL e) (qE dE hfe) oM (zSg hf) (fun v w h=>zEM oM f1 oM hC b1 v w h) (fun v w h=>zEM oM f2 oM hC b2 v w h) (fun r c G h=>zGb hb1 s1 h) (fun r c G h=>zGb hb2 s2 h) (a1:=a1) (ha.trans (forall_congr' fun x=>⟨fun h g=>(s1 x).2 (h ((s2 x).1 g)),fun h g=>(s1 x).1 (h ((s2 x).2 g))⟩))).mono ?_;rintro ee w' ⟨v,k,rfl,hv,hb⟩;exact⟨v,k,rfl,hv.imp id fun⟨h1,h2,h3⟩=>⟨h1,h2,h3.imp fun b ts h=>h.of s1 s2⟩,hb⟩
theorem zRN(v1 v2:Value)(w:World)(hC:C<=3)(he:e<=1998)(h1:MX C e L1 w v1)(h2:MX C e L2 w v2)(hb1:Bd C e L1)(hb2:Bd C f L2)(hf:f<=117)(hfe:f<=e+1){a2:Bool}(ha:a1=true↔∀x,L2 x->L1 x)(ha2:∀m k P U,HB C m P L1->HB C k U L2->(a2=true↔m=k)):
  Calls Tryz.prog 20 #[v1,v2] w fun e w'=>∃v k,e= .returned (.tuple #[v,.int .i64 k])/\zYJ a1 a2 (zS6 C L1 L2) w' v k/\Below w.heap.size w w':=by
 obtain⟨R,M,m1,f1,r1,b1,s1⟩:=h1;obtain⟨Q,N,m2,f2,r2,b2,s2⟩:=h2;refine(zPU v1 v2 R Q C (2^e) (2^f) (e+1) M N w m1 m2 f1 f2 hC (zHT e) (zFL e) (qE dE hfe) oM (zSg hf) (fun v w h=>zEM oM f1 oM hC b1 v w h) (fun v w h=>zEM oM f2 oM hC b2 v w h) (fun r c G h=>zGb hb1 s1 h) (fun r c G h=>zGb hb2 s2 h) (a1:=a1) (a2:=a2) (ha.trans (forall_congr' fun x=>⟨fun h g=>(s1 x).2 (h ((s2 x).1 g)),fun h g=>(s1 x).1 (h ((s2 x).2 g))⟩)) (fun m k P U h1 h2=>ha2 m k P U (h1.of s1) (h2.of s2))).mono ?_;rintro ee w' ⟨v,k,rfl,hv,hb⟩;exact⟨v,k,rfl,hv.imp id fun h=>h.imp id fun⟨h1,h2,h3,z,h4,h5⟩=>⟨h1,h2,h3,z,h4,h5.of s1 s2⟩,hb⟩
theorem zVQ(he:h<=2^e):bB h<=2^(4*e+17):=by
 have h1:(8*h)^4<=2^((e+3)*4):=by
  rw[jS];exact jB (by rw[yQ];omega) 4
 rw[show 4*e+17=(e+3)*4+5 by omega,yQ];unfold bB;omega
theorem zQe(hC:C<=4)(hA:leM (2^e) R C A):Bd C (4*e+17) (yC R C A):=fun m G hg=>(zMn hg hC (zHT e) hA).mono (zVQ (xgf _))
theorem zXR(hA:leM h R C A)(hB:leM h Q C B):leM h (R+Q) C (zJS R A B):=fun a ha b hb=>by
 unfold zJS;split;exact hA a (by assumption) b hb;exact hB _ oM b hb
theorem zFk{v:Array Value}(hb:Blk W r 32 v)(h3:v.size=3):(loadVar 32 ⟨r,0,none⟩).run Tryz.prog W= .ok (.agg v) W:=zIx hb h3
theorem zNj{fn:Func}{p1 p2 p3:Tmp}(h:fn.results=#[.cell p1 32,.cell p2 32,.cell p3 32])(tmps:Array Value){W:World}{r1 r2 r3:Nat}{v1 v2 v3:Array Value}
  (hp1:tmps.getD p1 undef= .pointer (some ⟨r1,0,none⟩)) (hp2:tmps.getD p2 undef= .pointer (some ⟨r2,0,none⟩)) (hp3:tmps.getD p3 undef= .pointer (some ⟨r3,0,none⟩))
  (hb1:Blk W r1 32 v1) (hb2:Blk W r2 32 v2) (hb3:Blk W r3 32 v3) (h1:v1.size=3) (h2:v2.size=3) (h3:v3.size=3):
  (results fn tmps).run Tryz.prog W= .ok (.tuple #[.agg v1,.agg v2,.agg v3]) W:=by
 have hp1':tmps[p1]?.getD undef= .pointer (some ⟨r1,0,none⟩):=by simpa using hp1
 have hp2':tmps[p2]?.getD undef= .pointer (some ⟨r2,0,none⟩):=by simpa using hp2
 have hp3':tmps[p3]?.getD undef= .pointer (some ⟨r3,0,none⟩):=by simpa using hp3
 simp[results,h,hp1',hp2',hp3',asAddr,zFk hb1 h1,zFk hb2 h2,zFk hb3 h3]
theorem MX.keep3{b:Nat}(h:MX C e L w v)(hb:Blk w b 32 cs)(x y z:Value):MX C e L (((w.setCell ⟨b,0,none⟩ x).setCell ⟨b,1,none⟩ y).setCell ⟨b,2,none⟩ z) v:=by
 obtain⟨R,M,h1,h2⟩:=h;exact⟨R,M,h1.keep3 hb _ _ _,h2⟩
def zHB(C r:Nat)(ls:List Int):(Nat->Int)->Prop:=yC (r%4) C (zS1 C ls)
theorem zGj(v:Value)(r C:Nat)(ls:List Int)(w:World)(h:I8V w v ls)(hr:r<=255)(hC:C<=16):
  Calls Tryz.prog 53 #[.agg #[.int .u8 r,v],.int .i64 C] w fun e w'=>∃u,e= .returned u/\MX C 4 (zHB C r ls) w' u/\Below w.heap.size w w':=by
 obtain⟨ao,n,cap,rfl,-,-,-,-,-⟩:=id h;obtain⟨R,hR⟩:∃R:Nat,R=r%4:=⟨_,rfl⟩;have e1:(r:Int)%4=(R:Int):=by omega
 have hR3:R<=3:=by omega
 have HL:zAN (zHB C r ls=yC R C (zS1 C ls)):=⟨by rw[hR];rfl⟩;clear hR;go_enter Tryz.func53,Tryz.ntmps53;go_upto_region 1 with(fail)
 refine zD ?_;intro W0 hW0;obtain⟨hB0,bx1,br,hs0⟩:=zAd hW0;obtain⟨c1,c2,c3,c4⟩:=bx1.two;clear hW0;go_wp2_with fail
 refine(zO8 _ R C ls W0 (h.below hB0) oM oM).mono ?_;rintro e w2 ⟨u,bs,rfl,hm,hb2⟩;obtain⟨o1,n1,k1,rfl⟩:=hm.mat.1.agg;have br:=br.below hb2;have hB:=nx hB0 hb2;have HM:=xgv hm.mat.1;obtain⟨r1,r2,r3,r4,r5,r6⟩:=br.three;clear c1 c2 c3 c4 hm e1;go_wp2;refine zAl (r:=w.heap.size+1) rfl rfl rfl (br.put3 _ _ _) ⟨_,rfl,⟨R,_,HM.out.keep3 br _ _ _,jJ _ _ _,hR3,fun a ha b hb=>?_,fun x=>?_⟩,yJ (yJ (yJ hB oM 0 _) oM 1 _) oM 2 _⟩
 ·rw[jM ha hb]
  exact zB (zQt C ls a b) dE
 rw[HL.out];exact yC.congr (fun a ha b hb=>jM ha hb) x
theorem zPS(v1 v2 v3:Value)(c r1 r2 r3:Nat)(l1 l2 l3:List Int)(w:World)(h1:I8V w v1 l1)(h2:I8V w v2 l2)(h3:I8V w v3 l3)(hc:c<=255)(hr1:r1<=255)(hr2:r2<=255)(hr3:r3<=255)(hC:C=c%4):
  Calls Tryz.prog 13 #[.agg #[.int .u8 c,.int .u8 r1,v1,.int .u8 r2,v2,.int .u8 r3,v3]] w fun e w'=>∃a b d,e= .returned (.tuple #[a,b,d])/\MX C 4 (zHB C r1 l1) w' a/\MX C 4 (zHB C r2 l2) w' b/\MX C 4 (zHB C r3 l3) w' d/\Below w.heap.size w w':=by
 obtain⟨o1,n1,k1,rfl,-⟩:=id h1;obtain⟨o2,n2,k2,rfl,-⟩:=id h2;obtain⟨o3,n3,k3,rfl,-⟩:=id h3;have e1:(c:Int)%4=(C:Int):=by omega
 have hC3:C<=3:=by omega
 have H1:=xgv h1;have H2:=xgv h2;have H3:=xgv h3;clear hC h1 h2 h3;go_enter Tryz.func13,Tryz.ntmps13;go_upto_region 1 with(fail)
 refine zD ?_;intro W0 hW0;obtain⟨hB0,bx,br1,br2,br3,hs0⟩:=zMa hW0;have f0:=bx.cell 0;have f1:=bx.cell 1;have f2:=bx.cell 2;have f3:=bx.cell 3;have f4:=bx.cell 4;have f5:=bx.cell 5;have f6:=bx.cell 6;have lbx:=bx.lt;clear hW0;go_upto_region 2 with(fail)
 have hl1:=zGt C 4 (zHB C r1 l1);have hl2:=zGt C 4 (zHB C r2 l2);have hl3:=zGt C 4 (zHB C r3 l3);refine yX 12 [pcD 3 [] (MX C 4 (zHB C r1 l1)),pcD 7 [] (MX C 4 (zHB C r2 l2)),pcD 11 [] (MX C 4 (zHB C r3 l3))] ?_;refine sRd ?_;refine sRc (fun wS hI Gk hG=>by go_simp;exact ck hG (zGj _ r1 C l1 _ ((H1.out.below hB0).below hI.bel) hr1 oM)) (fun va3 _=>?_);refine sRd ?_;refine sRc (fun wS hI Gk hG=>by go_simp;exact ck hG (zGj _ r2 C l2 _ ((H2.out.below hB0).below hI.bel) hr2 oM)) (fun va7 _=>?_);refine sRd ?_;refine sRc (fun wS hI Gk hG=>by go_simp;exact ck hG (zGj _ r3 C l3 _ ((H3.out.below hB0).below hI.bel) hr3 oM)) (fun va11 _=>?_);refine sRe ?_;intro w2 hbw2 ha3 ha7 ha11;have ha3:MX C 4 (zHB C r1 l1) w2 va3:=ha3;have ha7:MX C 4 (zHB C r2 l2) w2 va7:=ha7;have ha11:MX C 4 (zHB C r3 l3) w2 va11:=ha11;obtain⟨R1,p1,q1,s1,rfl⟩:=ha3.agg;obtain⟨R2,p2,q2,s2,rfl⟩:=ha7.agg;obtain⟨R3,p3,q3,s3,rfl⟩:=ha11.agg;have br1:=br1.below hbw2;have br2:=br2.below hbw2;have br3:=br3.below hbw2;have hB:=nx hB0 hbw2;have X1:=xgv ha3;have X2:=xgv ha7;have X3:=xgv ha11;obtain⟨g1,g2,g3,g4,g5,g6⟩:=br1.three;obtain⟨g7,g8,g9,g10,g11,g12⟩:=br2.three;obtain⟨g13,g14,g15,g16,g17,g18⟩:=br3.three;clear f0 f1 f2 f3 f4 f5 f6 ha3 ha7 ha11 hl1 hl2 hl3;go_wp2;have z2:=(zAe w2 (w.heap.size+1) (w.heap.size+1+1) (.int .i64 R1) (.int .i64 C) (.slice p1 q1 s1) oM).trans br2;have z3:=(zAe w2 (w.heap.size+1) (w.heap.size+1+1+1) (.int .i64 R1) (.int .i64 C) (.slice p1 q1 s1) oM).trans br3;have y1:=br1.put3 (.int .i64 R1) (.int .i64 C) (.slice p1 q1 s1);have z3':=(zAe _ (w.heap.size+1+1) (w.heap.size+1+1+1) (.int .i64 R2) (.int .i64 C) (.slice p2 q2 s2) oM).trans z3;have y1':=(zAe _ (w.heap.size+1+1) (w.heap.size+1) (.int .i64 R2) (.int .i64 C) (.slice p2 q2 s2) oM).trans y1;have y2:=Blk.put3 z2 (.int .i64 R2) (.int .i64 C) (.slice p2 q2 s2);have y1'':=(zAe _ (w.heap.size+1+1+1) (w.heap.size+1) (.int .i64 R3) (.int .i64 C) (.slice p3 q3 s3) oM).trans y1';have y2':=(zAe _ (w.heap.size+1+1+1) (w.heap.size+1+1) (.int .i64 R3) (.int .i64 C) (.slice p3 q3 s3) oM).trans y2;have y3:=Blk.put3 z3' (.int .i64 R3) (.int .i64 C) (.slice p3 q3 s3);refine bodyPost_ret (zNj rfl _ rfl rfl rfl y1'' y2' y3 rfl rfl rfl) rfl ⟨_,_,_,rfl,((X1.out.keep3 br1 _ _ _).keep3 z2 _ _ _).keep3 z3' _ _ _,((X2.out.keep3 br1 _ _ _).keep3 z2 _ _ _).keep3 z3' _ _ _,((X3.out.keep3 br1 _ _ _).keep3 z2 _ _ _).keep3 z3' _ _ _,
  yJ (yJ (yJ (yJ (yJ (yJ (yJ (yJ (yJ hB oM 0 _) oM 1 _) oM 2 _) oM 0 _) oM 1 _) oM 2 _) oM 0 _) oM 1 _) oM 2 _⟩
theorem zXB(v1 v2:Value)(w:World)(hC:C<=3)(he:e<=1999)(h1:MX C e L1 w v1)(h2:MX C e L2 w v2)(hb:Bd C f (zJZ C L1 L2))(hf:f<=1000000):
  Calls Tryz.prog 31 #[v1,v2] w fun e w'=>∃v,e= .returned v/\BX C (zJZ C L1 L2) w' v/\Below w.heap.size w w':=by
 obtain⟨R1,o1,n1,k1,rfl⟩:=h1.agg;obtain⟨R2,o2,n2,k2,rfl⟩:=h2.agg;have H1:=xgv h1;have H2:=xgv h2;have HB:=xgv hb;clear h1 h2 hb;go_enter Tryz.func31,Tryz.ntmps31;go_upto_region 1 with(fail)
 refine zD ?_;intro W0 hW0;obtain⟨hB0,bx1,bx2,br,hs0⟩:=zCH hW0;obtain⟨c1,c2,c3,c4,c5,c6⟩:=bx1.three;obtain⟨d1,d2,d3,d4,d5,d6⟩:=bx2.three;clear hW0;go_wp2_with fail
 refine(zYX _ _ W0 hC he (H1.out.below hB0) (H2.out.below hB0)).mono ?_;rintro e0 w1 ⟨v,rfl,⟨m,G,hg,hm⟩,hb1⟩;obtain⟨x1,x2,x3,rfl⟩:=hm.agg;have hB:=nx hB0 hb1;have bx1:=bx1.below hb1;have br:=br.below hb1;have HG:=xgv hg;have HM:=xgv hm;have HSM:zAN (∀r∈genM m C G,∀z∈r,Sm z):=⟨zLw (h:=2^f) (e:=f+1) (zFL f) oM (jJ _ _ _) fun a ha b hb=>by rw[jM ha hb];exact HB.out m G hg a ha b hb⟩;have HIS:zAN (zSz m C (genM m C G)):=⟨zRT.2 ⟨m,hg.hnf⟩⟩;clear c1 c2 c3 c4 c5 c6 d1 d2 d3 d4 d5 d6 bx2 hg hm;go_upto_region 2 with(fail)
 refine zD ?_;intro W2 hW2;obtain⟨hB2,T5,hs2⟩:=qM hW2;have hB:=nx hB hB2;have bx1:=bx1.below hB2;have br:=br.below hB2;have HM:=xgv (HM.out.below hB2);obtain⟨t1,t2,t3,t4,t5,t6⟩:=T5.three;clear hW2;go_wp2_with fail
 refine(zXN _ m C _ W2 HM.out HSM.out HIS.out).mono ?_;rintro e3 w3 ⟨v,rfl,rfl,hb3⟩;have hB:=nx hB hb3;have bx1:=bx1.below hb3;have br:=br.below hb3;have T5:=T5.below hb3;have HM:=xgv (HM.out.below hb3);clear t1 t2 t3 t4 t5 t6;obtain⟨t1,t2,t3,t4,t5,t6⟩:=T5.three;obtain⟨c1,c2,c3,c4,c5,c6⟩:=bx1.three;obtain⟨r1,r2,r3,r4,r5,r6⟩:=br.three;go_wp2;refine zAl (r:=w.heap.size+1+1) rfl rfl rfl (br.put3 _ _ _) ⟨_,rfl,⟨m,G,HG.out,HM.out.keep3 br _ _ _⟩,yJ (yJ (yJ hB oM 0 _) oM 1 _) oM 2 _⟩
theorem zK5(b1 b2:Int)(o1 o2:Option Addr)(n1 k1 n2 k2:Nat)(xs ys:List Int)(w:World)(h1:zBm w (.slice o1 n1 k1) xs)(h2:zBm w (.slice o2 n2 k2) ys)(ha:decide (b1=b2/\xs=ys)=ans):
  Calls Tryz.prog 30 #[.agg #[.int .i64 b1,.slice o1 n1 k1],.agg #[.int .i64 b2,.slice o2 n2 k2]] w fun e w'=>∃v,e= .returned v/\v= .bool ans/\Below w.heap.size w w':=by
 have H1:=xgv h1;have H2:=xgv h2;have HA:=xgv ha;obtain⟨a2,ha2⟩:∃a2,decide (xs=ys)=a2:=⟨_,rfl⟩;have HA2:=xgv ha2;clear h1 h2 ha ha2;go_enter Tryz.func30,Tryz.ntmps30;go_upto_region 1 with(fail)
 refine zD ?_;intro W0 hW0;obtain⟨hB0,bx1,bx2,hs0⟩:=zAd hW0;obtain⟨c1,c2,c3,c4⟩:=bx1.two;obtain⟨d1,d2,d3,d4⟩:=bx2.two;clear hW0;by_cases hb:b1=b2
 ·subst hb
  have HE:zAN (a2=ans):=⟨by rw[<-HA.out,<-HA2.out];simp⟩;go_wp2_with fail
  refine(zNd _ _ xs ys W0 (H1.out.below hB0) (H2.out.below hB0)).mono ?_;rintro e1 w1 ⟨rfl,hb1⟩;rw[HA2.out,HE.out];go_wp2;go_ret;exact⟨_,rfl,rfl,nx hB0 hb1⟩
 have HE:zAN (ans=false):=⟨by rw[<-HA.out];simp[hb]⟩;have hbq:((b1:Int)==b2)=false:=beq_eq_false_iff_ne.2 hb;have HEF:=HE.out;subst HEF;go_wp2;go_ret;exact⟨_,rfl,rfl,hB0⟩
theorem zTM{Q:Nat->Nat->Int}(h:Ech C m c P)(h':Ech C m c' Q)(e:∀a,a<m->∀b,b<C->Q a b=P a b):∀k,k<m->c k=c' k:=fun k hk=>by
 have p1:=h.pos k hk;have p2:=h'.pos k hk;have l1:=h.lt k hk;have l2:=h'.lt k hk;rcases yG (c k) (c' k)with g|g|g
 ·have:=h'.zero k hk (c k) g
  rw[e k hk _ l1]at this;omega
 exact g;have:=h.zero k hk (c' k) g;rw[<-e k hk _ l2]at this;omega
theorem zVE{Q:Nat->Nat->Int}(h:Ech C m c P)(h':Ech C m c' Q)(e:∀a,a<m->∀b,b<C->Q a b=P a b):zQP m c P=zQP m c' Q:=zIp fun i hi=>by
 rw[<-zTM h h' e i hi,e i hi _ (h.lt i hi)]
theorem zS6.val{Q:Nat->Nat->Int}(h:zS6 C L1 L2 z)(h1:HB C m P L1)(h2:HB C m Q L2)(e1:Ech C m c P)(e2:Ech C m c' Q):z*zQP m c P=zQP m c' Q:=by
 obtain⟨k,d,d',U,V,g1,g2,g3,g4,g5⟩:=h;obtain⟨rfl,q1⟩:=g1.eq h1 fun x=>zAK
 obtain⟨-,q2⟩:=g2.eq h2 fun x=>zAK
 rw[<-zVE g3 e1 q1,<-zVE g4 e2 q2];exact g5
theorem zQV.uniq{b':Int}{ts':List Int}(h:zQV C L1 L2 b ts)(h':zQV C L1 L2 b' ts'):b=b'/\ts=ts':=by
 obtain⟨m,k,r,P,Q,K,F,a1,a2,a3,a4,rfl,rfl⟩:=h;obtain⟨m',k',r',P',Q',K',F',c1,c2,c3,c4,rfl,rfl⟩:=h';obtain⟨rfl,q1⟩:=a1.eq c1 fun x=>zAK
 obtain⟨rfl,q2⟩:=a2.eq c2 fun x=>zAK
 obtain⟨c,hc⟩:=a1.hnf;have e:∀a,a<k->∀b,b<m->K' a b=K a b:=fun a ha b hb=>(hc.ech.uniq (y:=K' a) (z:=K a) (fun t ht=>by
  rw[<-a3 a ha t ht,<-q2 a ha t ht,c3 a ha t ht];exact zL fun s hs=>by rw[q1 s hs t ht]) b hb)
 have h1:=(a4.list_eq (c4.congr fun a ha b hb=>(e a ha b hb).symm) (Fac.refl _ _ _) (Fac.refl _ _ _));exact⟨rfl,by unfold zQN;rw[h1]⟩
theorem zXD(h:zAO w v R C M)(hF:zBc R C M)(hR:R<=3)(hA:leM (2^e) R C (ent M)):MX C e (yC R C (ent M)) w v:=⟨R,M,h,hF,hR,hA,fun _=>zAK⟩
theorem zEq(c:Nat->Nat)(h:Hnf C m m c G):HB C m G (yC m C G):=⟨⟨c,h⟩,fun _=>zAK⟩
theorem zFD(h1:∀k,k<m->c k<C/\0<G k (c k)/\∀t,t<c k->G k t=0)(h2:∀k,k<m->∀l,l<m->k<l->c k<c l/\0<=G k (c l)/\G k (c l)<G l (c l)):Hnf C m m c G:=
 ⟨xgf _,⟨fun k hk=>(h1 k hk).1,fun k hk=>(h1 k hk).2.1,fun k hk t ht=>(h1 k hk).2.2 t ht,fun k l hkl hl=>(h2 k oM l hl hkl).1⟩,fun i j hij hj _=>(h2 i oM j hj hij).2,fun a h1 h2=>by omega⟩
theorem zGO:yC 1 1 (ent [[a]]) x↔a∣x 0:=by
 constructor
 ·rintro⟨y,h⟩
  have:=h 0 dE;rw[qH,qH,show ent [[a]] 0 0=a from rfl,zAi]at this;exact⟨y 0,by rw[this,qL]⟩
 rintro⟨k,h⟩;refine⟨fun _=>k,fun b hb=>?_⟩;obtain rfl:b=0:=by omega
 rw[qH,qH,show ent [[a]] 0 0=a from rfl,zAi,h,qL]
theorem zWy(x:Nat->Int):zJZ 1 (yC 1 1 (ent [[4]])) (yC 1 1 (ent [[6]])) x↔yC 1 1 (ent [[2]]) x:=by
 rw[zGO];constructor
 ·rintro⟨u,v,h1,h2,h3⟩
  have:=h3 0 dE;rw[zGO]at h1 h2;omega
 intro h;obtain⟨k,hk⟩:=h;exact⟨fun _=>4*(-k),fun _=>6*k,zGO.2 ⟨-k,rfl⟩,zGO.2 ⟨k,rfl⟩,fun b hb=>by
  obtain rfl:b=0:=by omega
  show x 0=4*-k+6*k;rw[hk];omega⟩
theorem zWx(x:Nat->Int):zVJ (yC 1 1 (ent [[4]])) (yC 1 1 (ent [[6]])) x↔yC 1 1 (ent [[12]]) x:=by
 unfold zVJ;rw[zGO,zGO,zGO];omega
theorem zVC{c:Int}:yC 1 2 (ent [[a,c]]) x↔∃k,x 0=k*a/\x 1=k*c:=by
 constructor
 ·rintro⟨y,h⟩
  refine⟨y 0,?_,?_⟩
  ·have:=h 0 dE
   rw[qH,qH,show ent [[a,c]] 0 0=a from rfl,zAi]at this;exact this
  have:=h 1 dE;rw[qH,qH,show ent [[a,c]] 0 1=c from rfl,zAi]at this;exact this
 rintro⟨k,h1,h2⟩;refine⟨fun _=>k,fun b hb=>?_⟩;rcases(by omega:b=0∨b=1)with rfl|rfl
 rw[qH,qH,show ent [[a,c]] 0 0=a from rfl,zAi,h1];rw[qH,qH,show ent [[a,c]] 0 1=c from rfl,zAi,h2]
theorem zSa{c d:Int}:yC 2 2 (ent [[a,b],[c,d]]) x↔∃k l,x 0=k*a+l*c/\x 1=k*b+l*d:=by
 constructor
 ·rintro⟨y,h⟩
  refine⟨y 0,y 1,?_,?_⟩
  ·have:=h 0 dE
   rw[qH,qH,qH,show ent [[a,b],[c,d]] 0 0=a from rfl,show ent [[a,b],[c,d]] 1 0=c from rfl,zAi]at this;exact this
  have:=h 1 dE;rw[qH,qH,qH,show ent [[a,b],[c,d]] 0 1=b from rfl,show ent [[a,b],[c,d]] 1 1=d from rfl,zAi]at this;exact this
 rintro⟨k,l,h1,h2⟩;refine⟨fun t=>if t=0 then k else l,fun j hj=>?_⟩;rcases(by omega:j=0∨j=1)with rfl|rfl
 ·rw[qH,qH,qH,show ent [[a,b],[c,d]] 0 0=a from rfl,show ent [[a,b],[c,d]] 1 0=c from rfl,zAi,h1]
  rfl
 rw[qH,qH,qH,show ent [[a,b],[c,d]] 0 1=b from rfl,show ent [[a,b],[c,d]] 1 1=d from rfl,zAi,h2];rfl
theorem zUJ:yC 0 C A x↔∀b,b<C->x b=0:=⟨fun⟨_,h⟩=>h,fun h=>⟨fun _=>0,h⟩⟩
theorem zVd(x:Nat->Int):zVJ (yC 1 2 (ent [[1,1]])) (yC 1 2 (ent [[1,-1]])) x↔yC 0 2 (ent []) x:=by
 unfold zVJ;rw[zVC,zVC,zUJ];constructor
 ·rintro⟨⟨k,h1,h2⟩,l,h3,h4⟩ b hb
  rcases(by omega:b=0∨b=1)with rfl|rfl<;>omega
 intro h;have h0:=h 0 dE;have h1:=h 1 dE;exact⟨⟨0,by omega,by omega⟩,0,by omega,by omega⟩
theorem zTQ(x:Nat->Int):yC 2 1 (ent [[4],[6]]) x↔yC 1 1 (ent [[2]]) x:=by
 rw[zGO];constructor
 ·rintro⟨y,h⟩
  have:=h 0 dE;rw[qH,qH,qH,show ent [[4],[6]] 0 0=4 from rfl,show ent [[4],[6]] 1 0=6 from rfl]at this;omega
 rintro⟨k,hk⟩;refine⟨fun t=>if t=0 then-k else k,fun b hb=>?_⟩;obtain rfl:b=0:=by omega
 rw[qH,qH,qH,show ent [[4],[6]] 0 0=4 from rfl,show ent [[4],[6]] 1 0=6 from rfl,hk];simp only[if_pos,reduceIte];omega
abbrev zNK:List (List Int):=[[2,0],[0,3]]
abbrev zLH:List (List Int):=[[1,0],[0,1]]
theorem zKd:Hnf 2 2 2 (fun k=>k) (ent zNK):=zFD dE dE
theorem zHI:Hnf 2 2 2 (fun k=>k) (ent zLH):=zFD dE dE
theorem zVj:Hnf 1 1 1 (fun k=>k) (ent [[2]]):=zFD dE dE
theorem zPE:Hnf 1 1 1 (fun k=>k) (ent [[12]]):=zFD dE dE
theorem zW2:Hnf 2 1 1 (fun k=>k) (ent [[4,6]]):=zFD dE dE
theorem zW1:Hnf 2 1 1 (fun k=>k) (ent [[2,0]]):=zFD dE dE
theorem zTa:Hnf 2 0 0 (fun k=>k) (ent []):=zFD dE dE
theorem zI9(x:Nat->Int):yC 2 2 (ent zLH) x:=zSa.2 ⟨x 0,x 1,by omega,by omega⟩
theorem zTR(h:zS6 2 (yC 2 2 (ent zLH)) (yC 2 2 (ent zNK)) z):z=6:=by
 have:=h.val (zEq _ zHI) (zEq _ zKd) zHI.ech zKd.ech;rw[show zQP 2 (fun k=>k) (ent zLH)=1 from by decide,show zQP 2 (fun k=>k) (ent zNK)=6 from by decide]at this;omega
theorem zVc:zQV 2 (yC 2 2 (ent zLH)) (yC 2 2 (ent zNK)) 0 [6]:=
 ⟨2,2,2,ent zLH,ent zNK,ent zNK,ent [[1,0],[0,6]],zEq _ zHI,zEq _ zKd,by decide,⟨⟨by unfold zF9;decide,by decide,fun i h1 h2=>by omega,by decide⟩,fun a b h1 h2 h3=>by
  obtain⟨rfl,rfl⟩:a=0/\b=1:=by omega
  decide,⟨ent [[-1,1],[-3,2]],ent [[1,-3],[1,-2]],by decide⟩,⟨ent [[2,-1],[3,-1]],ent [[-2,3],[-1,1]],by decide⟩⟩,by decide,by decide⟩
theorem zTS:zQV 2 (yC 2 2 (ent zLH)) (yC 1 2 (ent [[4,6]])) 1 [2]:=
 ⟨2,1,1,ent zLH,ent [[4,6]],ent [[4,6]],ent [[2,0]],zEq _ zHI,zEq _ zW2,by decide,⟨⟨by unfold zF9;decide,by decide,fun i h1 h2=>by omega,by decide⟩,fun a b h1 h2 h3=>by omega,⟨ent [[1]],ent [[-1,-3],[1,2]],by decide⟩,⟨ent [[1]],ent [[2,3],[-1,-1]],by decide⟩⟩,by decide,by decide⟩
theorem zKo(v1 v2:Value)(M:List (List Int))(xs:List Int)(w:World)(h1:zAO w v1 R C M)(hF1:zBc R C M)(h2:zBm w v2 xs)(hn:xs.length≠C):
  Calls Tryz.prog 35 #[v1,v2] w fun e w'=>∃v,e= .returned v/\v= .bool false/\Below w.heap.size w w':=by
 have H1:=xgv h1;obtain⟨A1,rfl,h1⟩:=h1;obtain⟨xo,xn,xc,rfl,x2,x3,x4,-⟩:=id h2;rw[x2]at hn;have hne:((xn:Int)==(C:Int))=false:=beq_eq_false_iff_ne.2 fun h=>hn oM
 have hne2:¬ ((xn:Int)=(C:Int)):=fun h=>hn oM
 have H2:=xgv h2;have HF1:=xgv hF1;clear h1 hF1 h2 x2;go_enter Tryz.func35,Tryz.ntmps35;go_upto_region 1 with(fail)
 refine zD ?_;intro W0 hW0;obtain⟨hB0,bx1,hs0⟩:=qM hW0;obtain⟨c1,c2,c3,c4,c5,c6⟩:=bx1.three;clear hW0;go_wp2_with fail
 refine(zKv _ R C M W0 (H1.out.below hB0) HF1.out).mono ?_;rintro e w1 ⟨v,rfl,rfl,hb1⟩;have hB:=nx hB0 hb1;have bx1:=bx1.below hb1;clear c1 c2 c3 c4 c5 c6;go_wp2_with fail
 refine(zHv _ _ w1 (H2.out.below hB)).mono ?_;rintro e w2 ⟨rfl,hb2⟩;have hB:=nx hB hb2;have bx1:=bx1.below hb2;obtain⟨c1,c2,c3,c4,c5,c6⟩:=bx1.three;go_wp2;go_ret;exact⟨_,rfl,rfl,hB⟩
theorem zQi(h:BX C (yC m C (ent M)) w v)(hF:zBc m C M)(hH:Hnf C m m c (ent M)):zAO w v m C M:=by
 obtain⟨k,G,h1,h2⟩:=h;obtain⟨e1,e2⟩:=h1.mat (zEq c hH) fun x=>zAK
 rw[<-zLn hF]at e2;subst e1;rw[<-e2];exact h2
theorem mxL(h:zAO w v R C M)(hF:zBc R C M)(hR:R<=3)(hl:zTn 17 M=true):MX C 4 (yC R C (ent M)) w v:=zXD h hF hR (zRa hl hF)
theorem bdL(hF:zBc R C M)(hC:C<=4)(hl:zTn 17 M=true):Bd C 33 (yC R C (ent M)):=(zQe (e:=4) hC (fun a ha b hb=>zB (zRa (M0:=16) hl hF a ha b hb) dE)).mono dE
theorem jK(h:(decide (M.length=R) && M.all fun r=>decide (r.length=C))=true):zBc R C M:=by
 simp only[Bool.and_eq_true,decide_eq_true_eq,List.all_eq_true]at h;exact⟨h.1,h.2⟩
theorem zYD(v1 v2:Value)(w:World)(h1:zAO w v1 (1:Nat) (1:Nat) [[4]])(h2:zAO w v2 (1:Nat) (1:Nat) [[6]]):
  Calls Tryz.prog 16 #[v1,v2] w fun e w'=>∃v,e= .returned (.tuple #[v,.int .i64 0])/\zAO w' v (1:Nat) (1:Nat) [[2]]/\Below w.heap.size w w':=
 (zYX v1 v2 w dE dE (mxL h1 (jK dE) dE dE) (mxL h2 (jK dE) dE dE)).mono fun e w' ⟨v,he,hv,hb⟩=>⟨v,he,zQi (hv.of zWy) (jK dE) zVj,hb⟩
theorem zXw(v1 v2:Value)(w:World)(h1:zAO w v1 (1:Nat) (1:Nat) [[4]])(h2:zAO w v2 (1:Nat) (1:Nat) [[6]]):
  Calls Tryz.prog 18 #[v1,v2] w fun e w'=>∃v,e= .returned (.tuple #[v,.int .i64 0])/\zAO w' v (1:Nat) (1:Nat) [[12]]/\Below w.heap.size w w':=
 (zUu (e:=33) v1 v2 w dE dE ((mxL h1 (jK dE) dE dE).mono dE) ((mxL h2 (jK dE) dE dE).mono dE) (bdL (jK dE) dE dE) (bdL (jK dE) dE dE)).mono fun e w' ⟨v,he,hv,hb⟩=>⟨v,he,zQi (hv.of zWx) (jK dE) zPE,hb⟩
theorem zXv(v1 v2:Value)(w:World)(h1:zAO w v1 (1:Nat) (2:Nat) [[1,1]])(h2:zAO w v2 (1:Nat) (2:Nat) [[1,-1]]):
  Calls Tryz.prog 18 #[v1,v2] w fun e w'=>∃v,e= .returned (.tuple #[v,.int .i64 0])/\zAO w' v (0:Nat) (2:Nat) []/\Below w.heap.size w w':=
 (zUu (e:=33) v1 v2 w dE dE ((mxL h1 (jK dE) dE dE).mono dE) ((mxL h2 (jK dE) dE dE).mono dE) (bdL (jK dE) dE dE) (bdL (jK dE) dE dE)).mono fun e w' ⟨v,he,hv,hb⟩=>⟨v,he,zQi (hv.of zVd) (jK dE) zTa,hb⟩
theorem zVn(v1 v2:Value)(w:World)(h1:zAO w v1 (2:Nat) (2:Nat) zLH)(h2:zAO w v2 (2:Nat) (2:Nat) zNK):
  Calls Tryz.prog 20 #[v1,v2] w fun e w'=>∃v,e= .returned (.tuple #[v,.int .i64 0])/\jT w' v 6/\Below w.heap.size w w':=by
 refine(zRN (e:=33) (f:=33) (a1:=true) (a2:=true) v1 v2 w dE dE ((mxL h1 (jK dE) dE dE).mono dE) ((mxL h2 (jK dE) dE dE).mono dE) (bdL (jK dE) dE dE) (bdL (jK dE) dE dE) dE dE ⟨fun _ x _=>zI9 x,fun _=>rfl⟩ fun m k P U g1 g2=>⟨fun _=>?_,fun _=>rfl⟩).mono ?_
 ·obtain⟨e1,-⟩:=g1.eq (zEq _ zHI) fun x=>zAK
  obtain⟨e2,-⟩:=g2.eq (zEq _ zKd) fun x=>zAK
  omega
 rintro e w' ⟨v,k,rfl,hr,hb⟩;rcases hr with⟨h,-⟩|⟨-,h,-⟩|⟨-,-,rfl,z,hz,hp⟩
 cases h;cases h;rw[zTR hp]at hz;exact⟨v,rfl,hz,hb⟩
theorem zVm(v1 v2:Value)(w:World)(h1:zAO w v1 (1:Nat) (1:Nat) [[2]])(h2:zAO w v2 (1:Nat) (1:Nat) [[3]]):
  Calls Tryz.prog 20 #[v1,v2] w fun e w'=>∃v,e= .returned v/\v= .tuple #[.agg #[.bool false,.slice none 0 0],.int .i64 160]/\Below w.heap.size w w':=by
 refine(zRN (e:=33) (f:=33) (a1:=false) (a2:=true) v1 v2 w dE dE ((mxL h1 (jK dE) dE dE).mono dE) ((mxL h2 (jK dE) dE dE).mono dE) (bdL (jK dE) dE dE) (bdL (jK dE) dE dE) dE dE ⟨nofun,fun h=>?_⟩ fun m k P U g1 g2=>⟨fun _=>?_,fun _=>rfl⟩).mono ?_
 ·have:=(zGO (a:=2)).1 (h (fun _=>3) (zGO.2 (zAL 3)))
  omega
 ·obtain⟨e1,-⟩:=g1.eq (zEq (fun k=>k) (zFD dE dE:Hnf 1 1 1 (fun k=>k) (ent [[2]]))) fun x=>zAK
  obtain⟨e2,-⟩:=g2.eq (zEq (fun k=>k) (zFD dE dE:Hnf 1 1 1 (fun k=>k) (ent [[3]]))) fun x=>zAK
  omega
 rintro e w' ⟨v,k,rfl,hr,hb⟩;rcases hr with⟨-,rfl,rfl⟩|⟨h,-,-⟩|⟨h,-⟩
 exact⟨_,rfl,rfl,hb⟩;cases h;cases h
theorem zTc(v1 v2:Value)(w:World)(h1:zAO w v1 (2:Nat) (2:Nat) zLH)(h2:zAO w v2 (1:Nat) (2:Nat) [[2,0]]):
  Calls Tryz.prog 20 #[v1,v2] w fun e w'=>∃v,e= .returned v/\v= .tuple #[.agg #[.bool false,.slice none 0 0],.int .i64 170]/\Below w.heap.size w w':=by
 refine(zRN (e:=33) (f:=33) (a1:=true) (a2:=false) v1 v2 w dE dE ((mxL h1 (jK dE) dE dE).mono dE) ((mxL h2 (jK dE) dE dE).mono dE) (bdL (jK dE) dE dE) (bdL (jK dE) dE dE) dE dE ⟨fun _ x _=>zI9 x,fun _=>rfl⟩ fun m k P U g1 g2=>⟨nofun,fun h=>?_⟩).mono ?_
 ·obtain⟨e1,-⟩:=g1.eq (zEq _ zHI) fun x=>zAK
  obtain⟨e2,-⟩:=g2.eq (zEq _ zW1) fun x=>zAK
  omega
 rintro e w' ⟨v,k,rfl,hr,hb⟩;rcases hr with⟨h,-⟩|⟨-,-,rfl,rfl⟩|⟨-,h,-⟩
 cases h;exact⟨_,rfl,rfl,hb⟩;cases h
def GV(b:Int)(ts:List Int)(w:World)(v:Value):Prop:=∃o n c,v= .agg #[.int .i64 b,.slice o n c]/\zBm w (.slice o n c) ts
def GT(b:Int)(ts:List Int)(w:World)(v:Value):Prop:=∃u,v= .tuple #[u,.int .i64 0]/\GV b ts w u
theorem zFd(b:Int)(ts:List Int):zAQ (GV b ts):=fun _ _ _ e ⟨o,n,c,h1,h2⟩=>⟨o,n,c,h1,h2.below e⟩
theorem zRX(b:Int)(ts:List Int):zAQ (GT b ts):=fun _ _ _ e ⟨u,h1,h2⟩=>⟨u,h1,zFd _ _ _ _ _ e h2⟩
theorem zOW(v1 v2:Value)(w:World)(h1:zAO w v1 (2:Nat) (2:Nat) zLH)(h2:zAO w v2 (Q:Nat) (2:Nat) M)(hF:zBc Q 2 M)(hQ:Q<=3)(hl:zTn 17 M=true)(hq:zQV 2 (yC 2 2 (ent zLH)) (yC Q 2 (ent M)) b ts):
  Calls Tryz.prog 22 #[v1,v2] w fun e w'=>∃v,e= .returned v/\GT b ts w' v/\Below w.heap.size w w':=by
 refine(zX9 (e:=33) (f:=33) (a1:=true) v1 v2 w dE dE ((mxL h1 (jK dE) dE dE).mono dE) ((mxL h2 hF hQ hl).mono dE) (bdL (jK dE) dE dE) (bdL hF dE hl) dE dE ⟨fun _ x _=>zI9 x,fun _=>rfl⟩).mono ?_;rintro e w' ⟨v,k,rfl,hr,hb⟩;rcases hr with⟨h,-⟩|⟨-,rfl,b',ts',o,n,c,rfl,hv,hp⟩
 cases h;obtain⟨rfl,rfl⟩:=hp.uniq hq;exact⟨_,rfl,⟨_,rfl,_,_,_,rfl,hv⟩,hb⟩
theorem zKB(v1 v2:Value)(w:World)(h1:GV b ts w v1)(h2:GV b ts w v2):
  Calls Tryz.prog 30 #[v1,v2] w fun e w'=>∃v,e= .returned v/\v= .bool true/\Below w.heap.size w w':=by
 obtain⟨o1,n1,k1,rfl,g1⟩:=h1;obtain⟨o2,n2,k2,rfl,g2⟩:=h2;exact zK5 b b o1 o2 n1 k1 n2 k2 ts ts w g1 g2 (decide_eq_true ⟨rfl,rfl⟩)
theorem zBm.one_new(w:World){s:Bool}{a:Option Addr}{l c:Nat}(h:jT w (.agg #[.bool s,.slice a l c]) z):zBm (w.alloc (.cells #[.bool s,.slice a l c] 43)) (.slice (some ⟨w.heap.size,0,none⟩) 1 1) [z]:=by
 have hb:Below w.heap.size w (w.alloc (.cells #[.bool s,.slice a l c] 43)):=(zA _ _).alloc (xgf _) _;refine⟨_,1,1,rfl,rfl,xgf _,by omega,fun _=>⟨_,rfl,_,qQ _ _ _,fun k y hk=>?_⟩⟩;match k,hk with
 |0,hk=>
  simp at hk;subst hk;exact⟨_,_,_,_,rfl,rfl,h.ext (lx hb)⟩
theorem zTV(a b:Int):yL 2 (fun j=>if j=0 then a else b)= [a,b]:=rfl
theorem zN4(a b:Int)(ans:Bool)(v1 v2:Value)(w:World)(h1:zAO w v1 (2:Nat) (2:Nat) zNK)(h2:zBm w v2 [a,b])(ha:a.natAbs<=16)(hb:b.natAbs<=16)(hs:ans=true↔yC 2 2 (ent zNK) fun j=>if j=0 then a else b):
  Calls Tryz.prog 35 #[v1,v2] w fun e w'=>∃v,e= .returned v/\v= .bool ans/\Below w.heap.size w w':=
 zQp (e:=33) v1 v2 (fun j=>if j=0 then a else b) w dE dE ((mxL h1 (jK dE) dE dE).mono dE) (by rw[zTV];exact h2) (bdL (jK dE) dE dE) (fun j _=>by
  split<;>omega) hs
theorem zWF(v1 v2:Value)(w:World)(h1:zAO w v1 (2:Nat) (2:Nat) zNK)(h2:zAO w v2 (2:Nat) (2:Nat) zLH):
  Calls Tryz.prog 25 #[v1,v2] w fun e w'=>∃v,e= .returned v/\v= .bool true/\Below w.heap.size w w':=
 zDm (e:=33) v1 v2 w dE dE ((mxL h1 (jK dE) dE dE).mono dE) ((mxL h2 (jK dE) dE dE).mono dE) (bdL (jK dE) dE dE) ⟨fun _ x _=>zI9 x,fun _=>rfl⟩
theorem zRn:¬ yC 2 2 (ent zNK) fun j=>if j=0 then 1 else 0:=fun h=>by
 obtain⟨k,l,h1,h2⟩:=zSa.1 h;rw[if_pos rfl]at h1;omega
theorem zWO:yC 2 2 (ent zNK) fun j=>if j=0 then 4 else-3:=zSa.2 ⟨2,-1,by decide,by decide⟩
theorem zWG(v1 v2:Value)(w:World)(h1:zAO w v1 (2:Nat) (2:Nat) zLH)(h2:zAO w v2 (2:Nat) (2:Nat) zNK):
  Calls Tryz.prog 25 #[v1,v2] w fun e w'=>∃v,e= .returned v/\v= .bool false/\Below w.heap.size w w':=
 zDm (e:=33) v1 v2 w dE dE ((mxL h1 (jK dE) dE dE).mono dE) ((mxL h2 (jK dE) dE dE).mono dE) (bdL (jK dE) dE dE) ⟨nofun,fun h=>absurd (h _ (zI9 _)) zRn⟩
theorem zVZ(v1 v2:Value)(w:World)(h1:zAO w v1 (2:Nat) (1:Nat) [[4],[6]])(h2:zAO w v2 (1:Nat) (1:Nat) [[2]]):
  Calls Tryz.prog 27 #[v1,v2] w fun e w'=>∃v,e= .returned v/\v= .bool true/\Below w.heap.size w w':=
 zWv (e:=4) v1 v2 w dE dE (mxL h1 (jK dE) dE dE) (mxL h2 (jK dE) dE dE) ⟨fun _=>zTQ,fun _=>rfl⟩
theorem zSf(v1 v2:Value)(w:World)(h1:zAO w v1 (1:Nat) (1:Nat) [[4]])(h2:zAO w v2 (2:Nat) (2:Nat) zLH):
  Calls Tryz.prog 16 #[v1,v2] w fun e w'=>∃v,e= .returned v/\v= .tuple #[.agg #[.int .i64 0,.int .i64 0,.slice none 0 0],.int .i64 50]/\Below w.heap.size w w':=
 (zTt v1 v2 1 2 1 2 [[4]] zLH w h1 h2 (jK dE) (jK dE) dE).mono fun e w' ⟨v,h1,h2,h3⟩=>⟨_,h1,by rw[h2],h3⟩
theorem zYE(w:World):Calls Tryz.prog 49 #[.int .i64 2] w fun e w'=>∃v,e= .returned v/\zAO w' v (2:Nat) (2:Nat) zLH/\Below w.heap.size w w':=
 (zJQ 2 w dE).mono fun e w' ⟨v,bs,he,hm,hb⟩=>⟨v,he,by
  have h:=hm.mat.1
  rwa[show genM 2 2 idf=zLH from by decide]at h,hb⟩
structure Bu(P:World->Prop)(w:World):Prop where
 h:P w
 k:∀w w',Below w.heap.size w w'->P w->P w'
theorem Bu.nx{P:World->Prop}(a:Bu P w)(b:Below w.heap.size w w'):Bu P w':=⟨a.k _ _ b a.h,a.k⟩
theorem Bu.add{P Q:World->Prop}(a:Bu P w)(q:Q w)(k:∀w w',Below w.heap.size w w'->Q w->Q w'):Bu (fun w=>P w/\Q w) w:=⟨⟨a.h,q⟩,fun _ _ b h=>⟨a.k _ _ b h.1,k _ _ b h.2⟩⟩
theorem zBm.off2{zs:List Int}(h:zBm w v zs){b:Nat}(hb:Blk w b T cs)(hT:¬ T=tI)(hU:T≠tU)(x y:Value):zBm ((w.setCell ⟨b,0,none⟩ x).setCell ⟨b,1,none⟩ y) v zs:=
 h.sameB (fun g e2=>yS _ _ _ _ _ _ _ fun e=>by
  subst e;obtain⟨cs',e3,-⟩:=e2;unfold Blk at hb;rw[e3]at hb;injection hb with hb
  injection hb with _ ht
  exact hT ht.symm) (hb.lext2 hU _ _)
theorem GV.off2(h:GV b ts w v){g:Nat}(hb:Blk w g T cs)(hT:¬ T=tI)(hU:T≠tU)(x y:Value):GV b ts ((w.setCell ⟨g,0,none⟩ x).setCell ⟨g,1,none⟩ y) v:=by
 obtain⟨o,n,c,h1,h2⟩:=h;exact⟨o,n,c,h1,h2.off2 hb hT hU _ _⟩
theorem GV.below(h:GV b ts w v)(e:Below w.heap.size w w'):GV b ts w' v:=zFd b ts _ _ _ e h
theorem zV7(v1 v2:Value)(z:Int)(w:World)(h1:jT w v1 z)(h2:jT w v2 z):
  Calls Tryz.prog 29 #[v1,v2] w fun e w'=>∃v,e= .returned v/\v= .bool true/\Below w.heap.size w w':=
 (zJ6 v1 v2 z z w h1 h2).mono fun e w' ⟨h,hb⟩=>⟨_,h,by rw[decide_eq_true rfl],hb⟩
theorem zMC(w:World):Calls Tryz.prog 12 #[] w fun e w'=>e= .returned (.bool true)/\Below w.heap.size w w':=by
 go_enter Tryz.func12,Tryz.ntmps12;have hB:=zA w.heap.size w;go_wp2_with fail
 refine(zH1 _ [4] 1 1 _ _ [[4]] _ (zHC.new _ [4] dE dE) (by rfl) (by rfl) (by rfl) oM oM (by rfl)).mono ?_;rintro e wa ⟨v1,rfl,hm,hb1⟩;have hb1:=nxd hb1;have hB:=nx hB hb1;obtain⟨wao,wan,wak,rfl⟩:=hm.agg;have F:=Bu.mk hm (fun _ _ b h=>zAO.below h b);clear hm;go_wp2_with fail
 refine(zH1 _ [6] 1 1 _ _ [[6]] _ (zHC.new _ [6] dE dE) (by rfl) (by rfl) (by rfl) oM oM (by rfl)).mono ?_;rintro e wb ⟨v1,rfl,hm,hb1⟩;have hb1:=nxd hb1;have hB:=nx hB hb1;have F:=F.nx hb1;obtain⟨wbo,wbn,wbk,rfl⟩:=hm.agg;have F:=F.add hm (fun _ _ b h=>zAO.below h b);clear hm;go_wp2_with fail
 refine(zYE wb).mono ?_;rintro e wc ⟨v1,rfl,hm,hb1⟩;have hB:=nx hB hb1;have F:=F.nx hb1;obtain⟨wco,wcn,wck,rfl⟩:=hm.agg;have F:=F.add hm (fun _ _ b h=>zAO.below h b);clear hm;go_upto_region 2 with(fail)
 refine zD ?_;intro W2 hW2;obtain⟨hB2,b1,b2,b3,hsW2⟩:=zCH hW2;have hB:=nx hB hB2;have F:=F.nx hB2;clear hW2;have F:=F.add b1 (fun _ _ b h=>Blk.below h b);clear b1;have F:=F.add b2 (fun _ _ b h=>Blk.below h b);clear b2;have F:=F.add b3 (fun _ _ b h=>Blk.below h b);clear b3;go_wp2_with fail
 refine(zH1 _ [2,0,0,3] 2 2 _ _ zNK _ (zHC.new _ [2,0,0,3] dE dE) (by rfl) (by rfl) (by rfl) oM oM (by rfl)).mono ?_;rintro e wd ⟨v1,rfl,hm,hb1⟩;have hb1:=nxd hb1;have hB:=nx hB hb1;have F:=F.nx hb1;obtain⟨wdo,wdn,wdk,rfl⟩:=hm.agg;have F:=F.add hm (fun _ _ b h=>zAO.below h b);clear hm;go_upto_region 3 with(fail)
 refine zD ?_;intro W3 hW3;obtain⟨hB3,b4,hsW3⟩:=qM hW3;have hB:=nx hB hB3;have F:=F.nx hB3;clear hW3;have F:=F.add b4 (fun _ _ b h=>Blk.below h b);clear b4;obtain⟨p1,p2,p3,p4,p5,p6⟩:=F.h.1.1.1.1.2.three;obtain⟨q1,q2,q3,q4,q5,q6⟩:=F.h.1.1.1.2.three;go_wp2_with fail
 refine(zYD _ _ W3 F.h.1.1.1.1.1.1.1 F.h.1.1.1.1.1.1.2).mono ?_;rintro e we ⟨v1,rfl,hm,hb1⟩;have hB:=nx hB hb1;have F:=F.nx hb1;clear p1 p2 p3 p4 p5 p6 q1 q2 q3 q4 q5 q6;obtain⟨weo,wen,wek,rfl⟩:=hm.agg;have F:=F.add hm (fun _ _ b h=>zAO.below h b);clear hm;go_upto_region 4 with(fail)
 refine zD ?_;intro W4 hW4;obtain⟨hB4,b5,hsW4⟩:=qM hW4;have hB:=nx hB hB4;have F:=F.nx hB4;clear hW4;have F:=F.add b5 (fun _ _ b h=>Blk.below h b);clear b5;obtain⟨p1,p2,p3,p4,p5,p6⟩:=F.h.1.1.1.1.1.1.2.three;obtain⟨q1,q2,q3,q4,q5,q6⟩:=F.h.1.1.1.1.1.2.three;go_wp2_with fail
 refine(zXw _ _ W4 F.h.1.1.1.1.1.1.1.1.1 F.h.1.1.1.1.1.1.1.1.2).mono ?_;rintro e wf ⟨v1,rfl,hm,hb1⟩;have hB:=nx hB hb1;have F:=F.nx hb1;clear p1 p2 p3 p4 p5 p6 q1 q2 q3 q4 q5 q6;obtain⟨wfo,wfn,wfk,rfl⟩:=hm.agg;have F:=F.add hm (fun _ _ b h=>zAO.below h b);clear hm;go_upto_region 5 with(fail)
 refine zD ?_;intro W5 hW5;obtain⟨hB5,b7,hsW5⟩:=qM hW5;have hB:=nx hB hB5;have F:=F.nx hB5;clear hW5;have F:=F.add b7 (fun _ _ b h=>Blk.below h b);clear b7;go_wp2_with fail
 refine(zH1 _ [1,1] 1 2 _ _ [[1,1]] _ (zHC.new _ [1,1] dE dE) (by rfl) (by rfl) (by rfl) oM oM (by rfl)).mono ?_;rintro e wg ⟨v1,rfl,hm,hb1⟩;have hb1:=nxd hb1;have hB:=nx hB hb1;have F:=F.nx hb1;obtain⟨wgo,wgn,wgk,rfl⟩:=hm.agg;have F:=F.add hm (fun _ _ b h=>zAO.below h b);clear hm;go_wp2_with fail
 refine(zH1 _ [1,-1] 1 2 _ _ [[1,-1]] _ (zHC.new _ [1,-1] dE dE) (by rfl) (by rfl) (by rfl) oM oM (by rfl)).mono ?_;rintro e wh ⟨v1,rfl,hm,hb1⟩;have hb1:=nxd hb1;have hB:=nx hB hb1;have F:=F.nx hb1;obtain⟨who,whn,whk,rfl⟩:=hm.agg;have F:=F.add hm (fun _ _ b h=>zAO.below h b);clear hm;go_wp2_with fail
 refine(zXv _ _ wh F.h.1.2 F.h.2).mono ?_;rintro e wi ⟨v1,rfl,hm,hb1⟩;have hB:=nx hB hb1;have F:=F.nx hb1;obtain⟨wio,win,wik,rfl⟩:=hm.agg;have F:=F.add hm (fun _ _ b h=>zAO.below h b);clear hm;go_upto_region 6 with(fail)
 refine zD ?_;intro W6 hW6;obtain⟨hB6,b9,hsW6⟩:=qM hW6;have hB:=nx hB hB6;have F:=F.nx hB6;clear hW6;have F:=F.add b9 (fun _ _ b h=>Blk.below h b);clear b9;obtain⟨p1,p2,p3,p4,p5,p6⟩:=F.h.1.1.1.1.1.1.1.1.1.1.2.three;obtain⟨q1,q2,q3,q4,q5,q6⟩:=F.h.1.1.1.1.1.1.1.1.2.three;go_wp2_with fail
 refine(zVn _ _ W6 F.h.1.1.1.1.1.1.1.1.1.1.1.1.1.2 F.h.1.1.1.1.1.1.1.1.1.2).mono ?_;rintro e wj ⟨v1,rfl,hi,hb1⟩;have hB:=nx hB hb1;have F:=F.nx hb1;clear p1 p2 p3 p4 p5 p6 q1 q2 q3 q4 q5 q6;obtain⟨is,ia,il,ic,ix,rfl,hi'⟩:=id hi;have HI':=xgw hi';clear hi';have F:=F.add hi (fun _ _ b h=>jT.ext h (lx b));clear hi;go_upto_region 7 with(fail)
 refine zD ?_;intro W7 hW7;obtain⟨hB7,b11,hsW7⟩:=qM hW7;have hB:=nx hB hB7;have F:=F.nx hB7;clear hW7;have F:=F.add b11 (fun _ _ b h=>Blk.below h b);clear b11;go_wp2_with fail
 refine(zH1 _ [2] 1 1 _ _ [[2]] _ (zHC.new _ [2] dE dE) (by rfl) (by rfl) (by rfl) oM oM (by rfl)).mono ?_;rintro e wk ⟨v1,rfl,hm,hb1⟩;have hb1:=nxd hb1;have hB:=nx hB hb1;have F:=F.nx hb1;obtain⟨wko,wkn,wkk,rfl⟩:=hm.agg;have F:=F.add hm (fun _ _ b h=>zAO.below h b);clear hm;go_wp2_with fail
 refine(zH1 _ [3] 1 1 _ _ [[3]] _ (zHC.new _ [3] dE dE) (by rfl) (by rfl) (by rfl) oM oM (by rfl)).mono ?_;rintro e wl ⟨v1,rfl,hm,hb1⟩;have hb1:=nxd hb1;have hB:=nx hB hb1;have F:=F.nx hb1;obtain⟨wlo,wln,wlk,rfl⟩:=hm.agg;have F:=F.add hm (fun _ _ b h=>zAO.below h b);clear hm;go_wp2_with fail
 refine(zVm _ _ wl F.h.1.2 F.h.2).mono ?_;rintro e wm ⟨v1,rfl,rfl,hb1⟩;have hB:=nx hB hb1;have F:=F.nx hb1;go_upto_region 8 with(fail)
 refine zD ?_;intro W8 hW8;obtain⟨hB8,b13,hsW8⟩:=qM hW8;have hB:=nx hB hB8;have F:=F.nx hB8;clear hW8;have F:=F.add b13 (fun _ _ b h=>Blk.below h b);clear b13;go_upto_region 8 with(fail)
 obtain⟨p1,p2,p3,p4,p5,p6⟩:=F.h.1.1.1.1.1.1.1.1.1.1.1.1.1.1.1.2.three;have ltb:=F.h.1.1.1.1.1.1.1.1.1.1.1.1.1.1.1.2.lt;have hl1:=zEr [2,0];have hm1:=zBn (1:Nat) (2:Nat) [[2,0]];have hN1:=zHK 43 W8.heap.size #[.bool false,.slice none 0 0];refine zBM 9 rfl (RAS ([]) 99 W8 _ [⟨0,68,fun _ v=>v= .agg #[.int .i64 (2:Nat),.int .i64 (2:Nat),.slice wco wcn wck]⟩,⟨1,69,fun w v=>zHC w v [2,0]⟩,⟨2,70,fun w v=>zAO w v (1:Nat) (2:Nat) [[2,0]]⟩,⟨3,71,fun _ v=>v= .tuple #[.agg #[.bool false,.slice none 0 0],.int .i64 170]⟩,⟨4,67,fun _ v=>v= .tuple #[.agg #[.bool false,.slice none 0 0],.int .i64 170]⟩,⟨5,72,fun _ v=>v= .agg #[.bool false,.slice none 0 0]⟩,⟨6,73,fun _ v=>v= .int .i64 170⟩,⟨7,15,zXb 43 W8.heap.size #[.bool false,.slice none 0 0]⟩] 8 (zU7 15 72)) kR (zEX (zE3 kR (by repeat' (first|exact zDG _|exact zDx _|exact zBn _ _ _|exact zBa _|assumption|refine xgm.2 ⟨?_,?_⟩|exact xgn _)))) ?fin1 ?steps1
 case steps1=>
  refine⟨?_,?_,?_,?_,?_,?_,?_,?_,?_,trivial⟩
  ·refine yM.liftA kR dE ?_
   intro L T wS hL hd hcl hI K hK;try refine zK rfl ?_
   have zt:T[3]?=some (.pointer (some ⟨wc.heap.size+1+1,0,none⟩)):=hI.keep 3 sI;have cc0:=hI.cell (sI) oM p1;have cc1:=hI.cell (sI) oM p2;have cc2:=hI.cell (sI) oM p3;go_simp;exact hK _ _ (hI.y mm0 rfl)
  ·refine yM.liftA kR dE ?_
   intro L T wS hL hd hcl hI K hK;try refine zK rfl ?_
   go_simp;exact hK _ _ ((hI.world ((zA _ _).alloc (xgf _) _)).y mm1 (zHC.new _ [2,0] dE dE))
  ·refine yM.liftA kR dE ?_
   intro L T wS hL hd hcl hI K hK;try refine zK rfl ?_
   obtain⟨z1,zt1,hz1⟩:=hI.v mm1 (hd 1);go_simp;refine(zH1 _ [2,0] 1 2 _ _ [[2,0]] _ hz1 (by rfl) (by rfl) (by rfl) oM oM (by rfl)).mono ?_;rintro e wa ⟨v,rfl,hv,hba⟩;exact hK _ _ ((hI.world hba).y mm2 hv)
  ·refine yM.liftA kR dE ?_
   intro L T wS hL hd hcl hI K hK;try refine zK rfl ?_
   obtain⟨_,zt0,rfl⟩:=hI.v mm0 (hd 0);obtain⟨z2,zt2,hz2⟩:=hI.v mm2 (hd 2);have hbS:=zF2 hI.onl;go_simp;refine(zTc _ _ _ (F.h.1.1.1.1.1.1.1.1.1.1.1.1.1.1.1.1.1.1.2.below hbS) hz2).mono ?_;rintro e wa ⟨v,rfl,rfl,hba⟩;exact hK _ _ ((hI.world hba).y mm3 rfl)
  ·refine yM.liftA kR dE ?_
   intro L T wS hL hd hcl hI K hK;try refine zK rfl ?_
   obtain⟨_,zt3,rfl⟩:=hI.v mm3 (hd 3);go_simp;exact hK _ _ (hI.y mm4 rfl)
  ·refine yM.liftA kR dE ?_
   intro L T wS hL hd hcl hI K hK;try refine zK rfl ?_
   obtain⟨_,zt4,rfl⟩:=hI.v mm4 (hd 4);go_simp;exact hK _ _ (hI.y mm5 rfl)
  ·intro L T wS hL hd hcl hI K hK
   try refine zK rfl ?_
   obtain⟨w0,hJ,-,-⟩:=id hI;obtain⟨_,zt4,rfl⟩:=hJ.val _ mm4 (hd 4);go_simp;exact hK _ _ (hI.pure ⟨6,73,_⟩ mm6 rfl (fun _=>rfl) dE (fun _=>zIF dE dE))
  ·refine yM.liftA kR dE ?_
   intro L T wS hL hd hcl hI K hK;try refine zK rfl ?_
   go_simp;exact hK _ _ ((hI.world ((zA _ _).alloc (xgf _) _)).y mm7 ⟨_,rfl,hI.onl.bel.size,qQ _ _ _⟩)
  intro L T wS hL hd hcl hI K hK;try refine zK rfl ?_
  replace hI:=hI.here hL;obtain⟨z11,zt11,hz11⟩:=hI.v mm5 (hd 5);obtain⟨z13,zt13,hz13⟩:=hI.v mm7 (hd 7);obtain rfl:=hz11;obtain⟨b7,rfl,-,T7⟩:=hz13;obtain⟨f1,f2,f3,f4⟩:=T7.two;go_simp;exact hK _ _ (zEY hI hL (by repeat' (first|exact xgn _|refine xgm.2 ⟨by dsimp only;decide,?_⟩)) dE (zHU zt13 zt11).symm)
 intro T x8f hJ;obtain⟨x8,hI,-,hstx8⟩:=hJ;replace hstx8:=hstx8 kR;obtain⟨va0,q0,rfl⟩:=hI.v mm0 rfl;obtain⟨va1,q1,ha1⟩:=hI.v mm1 rfl;obtain⟨va2,q2,ha2⟩:=hI.v mm2 rfl;obtain⟨va3,q3,rfl⟩:=hI.v mm3 rfl;obtain⟨va4,q4,rfl⟩:=hI.v mm4 rfl;obtain⟨va5,q5,rfl⟩:=hI.v mm5 rfl;obtain⟨va6,q6,rfl⟩:=hI.v mm6 rfl;obtain⟨va7,q7,ha7⟩:=hI.v mm7 rfl;have hT:=zED [(68,.agg #[.int .i64 (2:Nat),.int .i64 (2:Nat),.slice wco wcn wck]),(69,va1),(70,va2),(71,.tuple #[.agg #[.bool false,.slice none 0 0],.int .i64 170]),(67,.tuple #[.agg #[.bool false,.slice none 0 0],.int .i64 170]),(72,.agg #[.bool false,.slice none 0 0]),(73,.int .i64 170),(15,va7)]
  (fun j hj=>hI.keep j (by simp only[xgm]at hj ⊢;simp[hj]))
  (by simp only[xgm];simp[q0,q1,q2,q3,q4,q5,q6,q7]) hI.size
 have hox8:=hI.onl;clear hI;simp only[List.foldl_cons,List.foldl_nil,xgh,xgi,xgj,ptr]at hT;subst hT;clear q0 q1 q2 q3 q4 q5 q6 q7;simp only[xgl,xgk];clear p1 p2 p3 p4 p5 p6;have hbw8:=zF2 hox8;obtain⟨g8,rfl,hg8,T8⟩:=ha7;have q8:=hbw8.size;have hw8:=hstx8.trans (zHU rfl rfl);have hbf8:Below W8.heap.size W8 x8f:=by
  rw[hw8];exact yJ (yJ hbw8 oM 0 _) oM 1 _
 have hB:=nx hB hbf8;have F:=F.nx hbf8;clear T8 hw8 hstx8 hox8 hbw8 hl1 hm1 hN1;go_upto_region 9 with(fail)
 obtain⟨p1,p2,p3,p4,p5,p6⟩:=F.h.1.1.1.1.1.1.1.1.1.1.1.1.1.1.1.2.three;obtain⟨q1,q2,q3,q4,q5,q6⟩:=F.h.1.1.1.1.1.1.1.1.1.1.1.1.1.2.three;go_wp2_with fail
 refine(zOW _ _ x8f F.h.1.1.1.1.1.1.1.1.1.1.1.1.1.1.1.1.1.1.2 F.h.1.1.1.1.1.1.1.1.1.1.1.1.1.1.2 (jK dE) dE dE zVc).mono ?_;rintro e wn ⟨v1,rfl,⟨u1,rfl,hg⟩,hb1⟩;have hB:=nx hB hb1;have F:=F.nx hb1;clear p1 p2 p3 p4 p5 p6 q1 q2 q3 q4 q5 q6;obtain⟨qo,qn,qk,rfl,-⟩:=id hg;have F:=F.add hg (fun _ _ b h=>GV.below h b);clear hg;go_upto_region 10 with(fail)
 refine zD ?_;intro W10 hW10;obtain⟨hB10,b17,hsW10⟩:=qM hW10;have hB:=nx hB hB10;have F:=F.nx hB10;clear hW10;have F:=F.add b17 (fun _ _ b h=>Blk.below h b);clear b17;have hGT:=zRX 1 [2];have hGV:=zFd 1 [2];go_upto_region 10 with(fail)
 obtain⟨p1,p2,p3,p4,p5,p6⟩:=F.h.1.1.1.1.1.1.1.1.1.1.1.1.1.1.1.1.1.2.three;have ltb:=F.h.1.1.1.1.1.1.1.1.1.1.1.1.1.1.1.1.1.2.lt;have hl1:=zEr [4,6];have hm1:=zBn (1:Nat) (2:Nat) [[4,6]];have hN1:=zHK tGr W10.heap.size #[.int .i64 0,.slice none 0 0];refine zBM 9 rfl (RAS ([]) 99 W10 _ [⟨0,81,fun _ v=>v= .agg #[.int .i64 (2:Nat),.int .i64 (2:Nat),.slice wco wcn wck]⟩,⟨1,82,fun w v=>zHC w v [4,6]⟩,⟨2,83,fun w v=>zAO w v (1:Nat) (2:Nat) [[4,6]]⟩,⟨3,84,GT 1 [2]⟩,⟨4,80,GT 1 [2]⟩,⟨5,85,GV 1 [2]⟩,⟨6,86,fun _ v=>v= .int .i64 0⟩,⟨7,19,zXb tGr W10.heap.size #[.int .i64 0,.slice none 0 0]⟩] 8 (zU7 19 85)) kR (zEX (zE3 kR (by repeat' (first|exact zDG _|exact zDx _|exact zBn _ _ _|exact zBa _|assumption|refine xgm.2 ⟨?_,?_⟩|exact xgn _)))) ?fin2 ?steps2
 case steps2=>
  refine⟨?_,?_,?_,?_,?_,?_,?_,?_,?_,trivial⟩
  ·refine yM.liftA kR dE ?_
   intro L T wS hL hd hcl hI K hK;try refine zK rfl ?_
   have zt:T[3]?=some (.pointer (some ⟨wc.heap.size+1+1,0,none⟩)):=hI.keep 3 sI;have cc0:=hI.cell (sI) oM p1;have cc1:=hI.cell (sI) oM p2;have cc2:=hI.cell (sI) oM p3;go_simp;exact hK _ _ (hI.y mm0 rfl)
  ·refine yM.liftA kR dE ?_
   intro L T wS hL hd hcl hI K hK;try refine zK rfl ?_
   go_simp;exact hK _ _ ((hI.world ((zA _ _).alloc (xgf _) _)).y mm1 (zHC.new _ [4,6] dE dE))
  ·refine yM.liftA kR dE ?_
   intro L T wS hL hd hcl hI K hK;try refine zK rfl ?_
   obtain⟨z1,zt1,hz1⟩:=hI.v mm1 (hd 1);go_simp;refine(zH1 _ [4,6] 1 2 _ _ [[4,6]] _ hz1 (by rfl) (by rfl) (by rfl) oM oM (by rfl)).mono ?_;rintro e wa ⟨v,rfl,hv,hba⟩;exact hK _ _ ((hI.world hba).y mm2 hv)
  ·refine yM.liftA kR dE ?_
   intro L T wS hL hd hcl hI K hK;try refine zK rfl ?_
   obtain⟨_,zt0,rfl⟩:=hI.v mm0 (hd 0);obtain⟨z2,zt2,hz2⟩:=hI.v mm2 (hd 2);have hbS:=zF2 hI.onl;go_simp;refine(zOW _ _ _ (F.h.1.1.1.1.1.1.1.1.1.1.1.1.1.1.1.1.1.1.1.1.2.below hbS) hz2 (jK dE) dE dE zTS).mono ?_;rintro e wa ⟨v,rfl,hv,hba⟩;exact hK _ _ ((hI.world hba).y mm3 hv)
  ·refine yM.liftA kR dE ?_
   intro L T wS hL hd hcl hI K hK;try refine zK rfl ?_
   obtain⟨z3,zt3,hz3⟩:=hI.v mm3 (hd 3);go_simp;exact hK _ _ (hI.y mm4 hz3)
  ·refine yM.liftA kR dE ?_
   intro L T wS hL hd hcl hI K hK;try refine zK rfl ?_
   obtain⟨z4,zt4,hz4⟩:=hI.v mm4 (hd 4);obtain⟨u,rfl,hu⟩:=hz4;go_simp;exact hK _ _ (hI.y mm5 hu)
  ·intro L T wS hL hd hcl hI K hK
   try refine zK rfl ?_
   obtain⟨w0,hJ,-,-⟩:=id hI;obtain⟨z4,zt4,hz4⟩:=hJ.val _ mm4 (hd 4);obtain⟨u,rfl,hu⟩:=hz4;go_simp;exact hK _ _ (hI.pure ⟨6,86,_⟩ mm6 rfl (fun _=>rfl) dE (fun _=>zIF dE dE))
  ·refine yM.liftA kR dE ?_
   intro L T wS hL hd hcl hI K hK;try refine zK rfl ?_
   go_simp;exact hK _ _ ((hI.world ((zA _ _).alloc (xgf _) _)).y mm7 ⟨_,rfl,hI.onl.bel.size,qQ _ _ _⟩)
  intro L T wS hL hd hcl hI K hK;try refine zK rfl ?_
  replace hI:=hI.here hL;obtain⟨z11,zt11,hz11⟩:=hI.v mm5 (hd 5);obtain⟨z13,zt13,hz13⟩:=hI.v mm7 (hd 7);obtain⟨vo,vn,vc,rfl,-⟩:=hz11;obtain⟨b7,rfl,-,T7⟩:=hz13;obtain⟨f1,f2,f3,f4⟩:=T7.two;go_simp;exact hK _ _ (zEY hI hL (by repeat' (first|exact xgn _|refine xgm.2 ⟨by dsimp only;decide,?_⟩)) dE (zHU zt13 zt11).symm)
 intro T x10f hJ;obtain⟨x10,hI,-,hstx10⟩:=hJ;replace hstx10:=hstx10 kR;obtain⟨va0,q0,rfl⟩:=hI.v mm0 rfl;obtain⟨va1,q1,ha1⟩:=hI.v mm1 rfl;obtain⟨va2,q2,ha2⟩:=hI.v mm2 rfl;obtain⟨va3,q3,ha3⟩:=hI.v mm3 rfl;obtain⟨va4,q4,ha4⟩:=hI.v mm4 rfl;obtain⟨va5,q5,ha5⟩:=hI.v mm5 rfl;obtain⟨va6,q6,rfl⟩:=hI.v mm6 rfl;obtain⟨va7,q7,ha7⟩:=hI.v mm7 rfl;have hT:=zED [(81,.agg #[.int .i64 (2:Nat),.int .i64 (2:Nat),.slice wco wcn wck]),(82,va1),(83,va2),(84,va3),(80,va4),(85,va5),(86,.int .i64 0),(19,va7)]
  (fun j hj=>hI.keep j (by simp only[xgm]at hj ⊢;simp[hj]))
  (by simp only[xgm];simp[q0,q1,q2,q3,q4,q5,q6,q7]) hI.size
 have hox10:=hI.onl;clear hI;simp only[List.foldl_cons,List.foldl_nil,xgh,xgi,xgj,ptr]at hT;subst hT;clear q0 q1 q2 q3 q4 q5 q6 q7;simp only[xgl,xgk];clear p1 p2 p3 p4 p5 p6;have hbw10:=zF2 hox10;replace ha5:GV 1 [2] x10 va5:=ha5;obtain⟨ro,rn,rk,rfl,-⟩:=id ha5;obtain⟨g10,rfl,hg10,T10⟩:=ha7;have q10:=hbw10.size;have hw10:=hstx10.trans (zHU rfl rfl);have b19:Blk x10f g10 tGr #[.int .i64 1,.slice ro rn rk]:=by rw[hw10];exact T10.put2 _ _
 have hbf10:Below W10.heap.size W10 x10f:=by
  rw[hw10];exact yJ (yJ hbw10 oM 0 _) oM 1 _
 have hg:GV 1 [2] x10f (.agg #[.int .i64 1,.slice ro rn rk]):=by
  rw[hw10];exact ha5.off2 T10 dE dE _ _
 have hB:=nx hB hbf10;have F:=F.nx hbf10;have F:=F.add hg (fun _ _ b h=>GV.below h b);clear hg;have F:=F.add b19 (fun _ _ b h=>Blk.below h b);clear b19;clear ha5 T10 hw10 hstx10 hox10 hbw10 hl1 hm1 hN1 hGT hGV;go_upto_region 11 with(fail)
 obtain⟨p1,p2,p3,p4,p5,p6⟩:=F.h.1.1.1.1.1.1.1.1.1.1.1.1.1.1.1.1.1.1.1.1.1.2.three;obtain⟨q1,q2,q3,q4,q5,q6⟩:=F.h.1.1.1.1.1.1.1.1.1.1.1.1.1.1.1.1.1.1.1.2.three;go_wp2_with fail
 refine(zSf _ _ x10f F.h.1.1.1.1.1.1.1.1.1.1.1.1.1.1.1.1.1.1.1.1.1.1.1.1 F.h.1.1.1.1.1.1.1.1.1.1.1.1.1.1.1.1.1.1.1.1.1.1.2).mono ?_;rintro e wo ⟨v1,rfl,rfl,hb1⟩;have hB:=nx hB hb1;have F:=F.nx hb1;clear p1 p2 p3 p4 p5 p6 q1 q2 q3 q4 q5 q6;go_upto_region 12 with(fail)
 refine zD ?_;intro W12 hW12;obtain⟨hB12,b21,hsW12⟩:=qM hW12;have hB:=nx hB hB12;have F:=F.nx hB12;clear hW12;have F:=F.add b21 (fun _ _ b h=>Blk.below h b);clear b21;go_upto_region 13 with(fail)
 obtain⟨c1,c2,c3,c4,c5,c6⟩:=F.h.1.1.1.1.1.1.1.1.1.1.1.1.1.1.1.1.2.three;obtain⟨d1,d2,d3,d4,d5,d6⟩:=F.h.1.1.1.1.1.1.1.1.1.1.1.1.1.1.2.three;obtain⟨f1,f2,f3,f4,f5,f6⟩:=F.h.1.1.1.1.1.1.1.1.1.1.2.three;obtain⟨g1,g2,g3,g4⟩:=F.h.1.1.1.1.1.1.1.1.2.two;have hL0:=zEr [2];have hL1:=zEr [12];have hL2:=zBn (1:Nat) (1:Nat) [[2]];have hL3:=zBn (1:Nat) (1:Nat) [[12]];have hL4:=zBn (0:Nat) (2:Nat) [];refine zCn [pcD 1 [] (fun w v=>zHC w v [2]),pcD 2 [1] (fun w v=>zAO w v (1:Nat) (1:Nat) [[2]]),pcD 3 [2] (fun _ v=>v= .bool true),pcD 6 [] (fun w v=>zHC w v [12]),pcD 7 [6] (fun w v=>zAO w v (1:Nat) (1:Nat) [[12]]),pcD 8 [7] (fun _ v=>v= .bool true),pcD 12 [] (fun w v=>zAO w v (0:Nat) (2:Nat) []),pcD 13 [12] (fun _ v=>v= .bool true),pcI 17 (6),pcD 18 [17] (fun _ v=>v= .bool true)] ?_;refine sRd ?_;refine sRc (fun wS hI Gk hG=>?_) (fun vy1 _=>?_)
 ·go_simp
  exact⟨hG _ _ (zHC.new _ [2] dE dE),(zA _ _).alloc (xgf _) _⟩
 refine sRc (fun wS hI hy1 Gk hG=>by go_simp;exact ck hG (zH1 _ [2] 1 1 _ _ [[2]] _ hy1 (by rfl) (by rfl) (by rfl) oM oM (by rfl))) (fun vy2 _=>?_);refine sRc (fun wS hI hy2 Gk hG=>?_) (fun _ hv=>?_)
 ·go_simp
  refine(zWC _ _ _ _ _ _ (F.h.1.1.1.1.1.1.1.1.1.1.1.1.1.1.1.1.1.2.below hI.bel) hy2).mono ?_;rintro e wa ⟨v,rfl,hv,hba⟩;exact⟨_,rfl,hG _ _ hv,hba⟩
 obtain⟨_,-,rfl⟩:=hv;refine sRd ?_;refine sRc (fun wS hI Gk hG=>?_) (fun vy6 _=>?_)
 ·go_simp
  exact⟨hG _ _ (zHC.new _ [12] dE dE),(zA _ _).alloc (xgf _) _⟩
 refine sRc (fun wS hI hy6 Gk hG=>by go_simp;exact ck hG (zH1 _ [12] 1 1 _ _ [[12]] _ hy6 (by rfl) (by rfl) (by rfl) oM oM (by rfl))) (fun vy7 _=>?_);refine sRc (fun wS hI hy7 Gk hG=>?_) (fun _ hv=>?_)
 ·go_simp
  refine(zWC _ _ _ _ _ _ (F.h.1.1.1.1.1.1.1.1.1.1.1.1.1.1.1.2.below hI.bel) hy7).mono ?_;rintro e wa ⟨v,rfl,hv,hba⟩;exact⟨_,rfl,hG _ _ hv,hba⟩
 obtain⟨_,-,rfl⟩:=hv;refine sRd ?_;refine sRc (fun wS hI Gk hG=>by go_simp;exact ck hG (zYu 0 2 _ _ _ (by rfl) (by rfl) oM oM)) (fun vy12 _=>?_);refine sRc (fun wS hI hy12 Gk hG=>?_) (fun _ hv=>?_)
 ·go_simp
  refine(zWC _ _ _ _ _ _ (F.h.1.1.1.1.1.1.1.1.1.1.1.2.below hI.bel) hy12).mono ?_;rintro e wa ⟨v,rfl,hv,hba⟩;exact⟨_,rfl,hG _ _ hv,hba⟩
 obtain⟨_,-,rfl⟩:=hv;refine sRd ?_;refine sRc (fun wS hI Gk hG=>by go_simp;exact ck hG (zDc 6 _ oM oM)) (fun vy17 _=>?_);refine sRc (fun wS hI hy17 Gk hG=>?_) (fun _ hv=>?_)
 ·go_simp
  refine(zV7 _ _ 6 _ (F.h.1.1.1.1.1.1.1.1.1.2.ext (lx hI.bel)) hy17).mono ?_;rintro e wa ⟨v,rfl,hv,hba⟩;exact⟨_,rfl,hG _ _ hv,hba⟩
 obtain⟨_,-,rfl⟩:=hv;refine sRd ?_;refine sRe ?_;intro x13 hbx13 hy1 hy2 _ hy6 hy7 _ hy12 _ hy17 _;have hx13:=hbx13;have hB:=nx hB hx13;have F:=F.nx hx13;clear hbx13 hx13 hL0 hL1 hL2 hL3 hL4 c1 c2 c3 c4 c5 c6 d1 d2 d3 d4 d5 d6 f1 f2 f3 f4 f5 f6 g1 g2 g3 g4;go_upto_region 14 with(fail)
 obtain⟨c1,c2,c3,c4⟩:=F.h.1.1.1.2.two;obtain⟨d1,d2,d3,d4⟩:=F.h.1.2.two;have hL0:=zBa [6];have hL1:=zBa [2];have hL2:=zFd 0 [6];have hL3:=zFd 1 [2];refine zCn [pcI 1 (6),pcD 2 [1] (fun w v=>zBm w v [6]),pcD 3 [2] (GV 0 [6]),pcD 4 [3] (fun _ v=>v= .bool true),pcI 7 (2),pcD 8 [7] (fun w v=>zBm w v [2]),pcD 9 [8] (GV 1 [2]),pcD 10 [9] (fun _ v=>v= .bool true)] ?_;refine sRd ?_;refine sRc (fun wS hI Gk hG=>by go_simp;exact ck hG (zDc 6 _ oM oM)) (fun vy1 _=>?_);refine sRc (fun wS hI hy1 Gk hG=>?_) (fun vy2 _=>?_)
 ·have h1':jT wS vy1 6:=hy1
  obtain⟨s1,a1,l1,c1',x1,rfl,-⟩:=id h1';go_simp;exact⟨hG _ _ (zBm.one_new _ h1'),(zA _ _).alloc (xgf _) _⟩
 refine sRc (fun wS hI hy2 Gk hG=>?_) (fun vy3 _=>?_)
 ·have h2':zBm wS vy2 [6]:=hy2
  obtain⟨o2,n2,k2,rfl,-⟩:=id h2';go_simp;exact⟨hG _ _ ⟨_,_,_,rfl,h2'⟩,zA _ _⟩
 refine sRc (fun wS hI hy3 Gk hG=>?_) (fun _ hv=>?_)
 ·go_simp
  refine(zKB _ _ _ (F.h.1.1.1.1.2.below hI.bel) hy3).mono ?_;rintro e wa ⟨v,rfl,hv,hba⟩;exact⟨_,rfl,hG _ _ hv,hba⟩
 obtain⟨_,-,rfl⟩:=hv;refine sRd ?_;refine sRc (fun wS hI Gk hG=>by go_simp;exact ck hG (zDc 2 _ oM oM)) (fun vy7 _=>?_);refine sRc (fun wS hI hy7 Gk hG=>?_) (fun vy8 _=>?_)
 ·have h1':jT wS vy7 2:=hy7
  obtain⟨s1,a1,l1,c1',x1,rfl,-⟩:=id h1';go_simp;exact⟨hG _ _ (zBm.one_new _ h1'),(zA _ _).alloc (xgf _) _⟩
 refine sRc (fun wS hI hy8 Gk hG=>?_) (fun vy9 _=>?_)
 ·have h2':zBm wS vy8 [2]:=hy8
  obtain⟨o2,n2,k2,rfl,-⟩:=id h2';go_simp;exact⟨hG _ _ ⟨_,_,_,rfl,h2'⟩,zA _ _⟩
 refine sRc (fun wS hI hy9 Gk hG=>?_) (fun _ hv=>?_)
 ·go_simp
  refine(zKB _ _ _ (F.h.1.1.2.below hI.bel) hy9).mono ?_;rintro e wa ⟨v,rfl,hv,hba⟩;exact⟨_,rfl,hG _ _ hv,hba⟩
 obtain⟨_,-,rfl⟩:=hv;refine sRd ?_;refine sRe ?_;intro x14 hbx14 hy1 hy2 hy3 _ hy7 hy8 hy9 _;have hx14:=hbx14;have hB:=nx hB hx14;have F:=F.nx hx14;clear hbx14 hx14 hL0 hL1 hL2 hL3 c1 c2 c3 c4 d1 d2 d3 d4;go_upto_region 15 with(fail)
 obtain⟨c1,c2,c3,c4,c5,c6⟩:=F.h.1.1.1.1.1.1.1.1.1.1.1.1.1.1.1.1.1.1.1.1.2.three;obtain⟨d1,d2,d3,d4,d5,d6⟩:=F.h.1.1.1.1.1.1.1.1.1.1.1.1.1.1.1.1.1.1.2.three;obtain⟨f1,f2,f3,f4,f5,f6⟩:=F.h.1.1.1.1.1.1.1.1.1.1.1.1.1.1.1.1.2.three;have hL0:=zBa [4,-3];have hL1:=zBa [1,0];have hL2:=zBa [0];have hL3:=zEr [4,6];have hL4:=zBn (2:Nat) (1:Nat) [[4],[6]];refine zCn [pcI 9 (4),pcI 10 (-3),pcD 11 [9,10] (fun w v=>zBm w v [4,-3]),pcD 12 [11] (fun _ v=>v= .bool true),pcI 16 (1),pcI 17 (0),pcD 18 [16,17] (fun w v=>zBm w v [1,0]),pcD 19 [18] (fun _ v=>v= .bool false),pcI 24 (0),pcD 25 [24] (fun w v=>zBm w v [0]),pcD 26 [25] (fun _ v=>v= .bool false),pcD 32 [] (fun _ v=>v= .bool true),pcD 37 [] (fun _ v=>v= .bool false),pcD 41 [] (fun w v=>zHC w v [4,6]),pcD 42 [41] (fun w v=>zAO w v (2:Nat) (1:Nat) [[4],[6]]),pcD 44 [42] (fun _ v=>v= .bool true)] ?_;refine sRd ?_;refine sRc (fun wS hI Gk hG=>by go_simp;exact ck hG (zDc 4 _ oM oM)) (fun vy9 _=>?_);refine sRc (fun wS hI Gk hG=>by go_simp;exact ck hG (zDc (-3) _ oM oM)) (fun vy10 _=>?_);refine sRc (fun wS hI hy9 hy10 Gk hG=>?_) (fun vy11 _=>?_)
 ·have h1':jT wS vy9 (4):=hy9
  have h2':jT wS vy10 (-3):=hy10;obtain⟨s1,a1,l1,c1',x1,rfl,-⟩:=id h1';obtain⟨s2,a2,l2,c2',x2,rfl,-⟩:=id h2';go_simp;exact⟨hG _ _ (zBm.two _ h1' h2'),(zA _ _).alloc (xgf _) _⟩
 refine sRc (fun wS hI hy11 Gk hG=>?_) (fun _ hv=>?_)
 ·go_simp
  refine(zN4 4 (-3) true _ _ _ (F.h.1.1.1.1.1.1.1.1.1.1.1.1.1.1.1.1.1.1.1.2.below hI.bel) hy11 dE dE ⟨fun _=>zWO,fun _=>rfl⟩).mono ?_;rintro e wa ⟨v,rfl,hv,hba⟩;exact⟨_,rfl,hG _ _ hv,hba⟩
 obtain⟨_,-,rfl⟩:=hv;refine sRd ?_;refine sRc (fun wS hI Gk hG=>by go_simp;exact ck hG (zDc 1 _ oM oM)) (fun vy16 _=>?_);refine sRc (fun wS hI Gk hG=>by go_simp;exact ck hG (zDc 0 _ oM oM)) (fun vy17 _=>?_);refine sRc (fun wS hI hy16 hy17 Gk hG=>?_) (fun vy18 _=>?_)
 ·have h1':jT wS vy16 (1):=hy16
  have h2':jT wS vy17 (0):=hy17;obtain⟨s1,a1,l1,c1',x1,rfl,-⟩:=id h1';obtain⟨s2,a2,l2,c2',x2,rfl,-⟩:=id h2';go_simp;exact⟨hG _ _ (zBm.two _ h1' h2'),(zA _ _).alloc (xgf _) _⟩
 refine sRc (fun wS hI hy18 Gk hG=>?_) (fun _ hv=>?_)
 ·go_simp
  refine(zN4 1 0 false _ _ _ (F.h.1.1.1.1.1.1.1.1.1.1.1.1.1.1.1.1.1.1.1.2.below hI.bel) hy18 dE dE ⟨nofun,fun h=>absurd h zRn⟩).mono ?_;rintro e wa ⟨v,rfl,hv,hba⟩;exact⟨_,rfl,hG _ _ hv,hba⟩
 obtain⟨_,-,rfl⟩:=hv;refine sRd ?_;refine sRc (fun wS hI Gk hG=>by go_simp;exact ck hG (zDc 0 _ oM oM)) (fun vy24 _=>?_);refine sRc (fun wS hI hy24 Gk hG=>?_) (fun vy25 _=>?_)
 ·have h1':jT wS vy24 0:=hy24
  obtain⟨s1,a1,l1,c1',x1,rfl,-⟩:=id h1';go_simp;exact⟨hG _ _ (zBm.one_new _ h1'),(zA _ _).alloc (xgf _) _⟩
 refine sRc (fun wS hI hy25 Gk hG=>?_) (fun _ hv=>?_)
 ·go_simp
  refine(zKo _ _ zNK [0] _ (F.h.1.1.1.1.1.1.1.1.1.1.1.1.1.1.1.1.1.1.1.2.below hI.bel) (jK dE) hy25 dE).mono ?_;rintro e wa ⟨v,rfl,hv,hba⟩;exact⟨_,rfl,hG _ _ hv,hba⟩
 obtain⟨_,-,rfl⟩:=hv;refine sRd ?_;refine sRc (fun wS hI Gk hG=>?_) (fun _ hv=>?_)
 ·go_simp
  refine(zWF _ _ _ (F.h.1.1.1.1.1.1.1.1.1.1.1.1.1.1.1.1.1.1.1.2.below hI.bel) (F.h.1.1.1.1.1.1.1.1.1.1.1.1.1.1.1.1.1.1.1.1.1.1.1.2.below hI.bel)).mono ?_;rintro e wa ⟨v,rfl,hv,hba⟩;exact⟨_,rfl,hG _ _ hv,hba⟩
 obtain⟨_,-,rfl⟩:=hv;refine sRd ?_;refine sRc (fun wS hI Gk hG=>?_) (fun _ hv=>?_)
 ·go_simp
  refine(zWG _ _ _ (F.h.1.1.1.1.1.1.1.1.1.1.1.1.1.1.1.1.1.1.1.1.1.1.1.2.below hI.bel) (F.h.1.1.1.1.1.1.1.1.1.1.1.1.1.1.1.1.1.1.1.2.below hI.bel)).mono ?_;rintro e wa ⟨v,rfl,hv,hba⟩;exact⟨_,rfl,hG _ _ hv,hba⟩
 obtain⟨_,-,rfl⟩:=hv;refine sRd ?_;refine sRc (fun wS hI Gk hG=>?_) (fun vy41 _=>?_)
 ·go_simp
  exact⟨hG _ _ (zHC.new _ [4,6] dE dE),(zA _ _).alloc (xgf _) _⟩
 refine sRc (fun wS hI hy41 Gk hG=>by go_simp;exact ck hG (zH1 _ [4,6] 2 1 _ _ [[4],[6]] _ hy41 (by rfl) (by rfl) (by rfl) oM oM (by rfl))) (fun vy42 _=>?_);refine sRd ?_;refine sRc (fun wS hI hy42 Gk hG=>?_) (fun _ hv=>?_)
 ·go_simp
  refine(zVZ _ _ _ hy42 (F.h.1.1.1.1.1.1.1.1.1.1.1.1.1.1.1.1.1.2.below hI.bel)).mono ?_;rintro e wa ⟨v,rfl,hv,hba⟩;exact⟨_,rfl,hG _ _ hv,hba⟩
 obtain⟨_,-,rfl⟩:=hv;refine sRd ?_;refine sRe ?_;intro x15 hbx15 hy9 hy10 hy11 _ hy16 hy17 hy18 _ hy24 hy25 _ _ _ hy41 hy42 _;have hB:=nx hB hbx15;go_wp2;go_ret;exact⟨rfl,hB⟩
structure Gd(C e:Nat)(L:(Nat->Int)->Prop):Prop where
 bd:Bd C e L
 hb:∃m G,HB C m G L
theorem Gd.mono(h:Gd C e L)(k:e<=e'):Gd C e' L:=⟨h.bd.mono k,h.hb⟩
theorem zVh(hR:R<=6)(A:Nat->Nat->Int):∃m G,HB C m G (yC R C A):=by
 obtain⟨r,c,H,U,V,h⟩:=zTY (C:=C) hR A;exact⟨r,H,h.lat.hb⟩
theorem zRC(hR:R<=6)(hC:C<=4)(hA:leM (2^e) R C A):Gd C (4*e+17) (yC R C A):=⟨zQe hC hA,zVh hR A⟩
theorem Gd.of(h:Gd C e L)(k:∀x,L x↔L' x):Gd C e L':=⟨h.bd.of k,h.hb.elim fun m h=>h.elim fun G h=>⟨m,G,h.of k⟩⟩
theorem zUq(hR:R<=3)(hQ:Q<=3)(hC:C<=4)(hA:leM (2^e) R C A)(hB:leM (2^e) Q C B):Gd C (4*e+17) (zJZ C (yC R C A) (yC Q C B)):=
 (zRC (R:=R+Q) oM hC (zXR hA hB)).of fun x=>yC.stk x
theorem Gd.ex(h:Gd C e L)(hC:C<=3):∃m G,m<=3/\leM (2^e) m C G/\∀x,yC m C G x↔L x:=by
 obtain⟨m,G,hg⟩:=h.hb;exact⟨m,G,zB hg.le_cols hC,h.bd m G hg,fun x=>(hg.iff x).symm⟩
theorem zWz(h1:Gd C e L1)(h2:Gd C e L2)(hC:C<=3):Gd C (4*e+17) (zJZ C L1 L2):=by
 obtain⟨m,G,a1,a2,a3⟩:=h1.ex hC;obtain⟨k,U,c1,c2,c3⟩:=h2.ex hC;exact(zUq a1 c1 oM a2 c2).of fun x=>zJZ.congr a3 c3 x
theorem zSE(C r:Nat)(ls:List Int):leM (2^4) (r%4) C (zS1 C ls):=fun a _ b _=>zB (zQt C ls a b) dE
theorem zRB(hC:C<=3)(ls:List Int):Gd C 33 (zHB C r ls):=zRC (e:=4) oM oM (zSE C r ls)
theorem zVf(hC:C<=3)(l1 l2:List Int):Gd C 33 (zJZ C (zHB C r1 l1) (zHB C r2 l2)):=zUq (e:=4) oM oM oM (zSE C r1 l1) (zSE C r2 l2)
theorem Gd.lat(h:Gd C e L):Lat C L:=by
 obtain⟨m,G,hg⟩:=h.hb;have k:=zTk m C G;exact⟨(hg.iff _).2 k.zero,fun x y hx e=>(hg.iff _).2 (k.ext x y ((hg.iff _).1 hx) e),fun x y hx hy=>(hg.iff _).2 (k.add x y ((hg.iff _).1 hx) ((hg.iff _).1 hy)),fun x y hx hy=>(hg.iff _).2 (k.sub x y ((hg.iff _).1 hx) ((hg.iff _).1 hy))⟩
def Ans(f:Bool)(P:Prop):Prop:=f=true↔P
theorem zQ6(P:Prop):∃f:Bool,f=true↔P:=by
 by_cases h:P
 ·exact⟨true,fun _=>h,fun _=>rfl⟩
 exact⟨false,nofun,fun g=>absurd g h⟩
theorem zUN{M N:(Nat->Int)->Prop}(h:Lat C L)(k:Lat C M)(l:Lat C N):(∀x,zJZ C L M x->N x)↔(∀x,L x->N x)/\∀x,M x->N x:=
 ⟨fun g=>⟨fun x hx=>g x (zK8 k hx),fun x hx=>g x (zMI h hx)⟩,fun⟨g1,g2⟩ x ⟨u,v,hu,hv,e⟩=>l.ext _ _ (l.add u v (g1 u hu) (g2 v hv)) e⟩
theorem zJP(v1 v2 v3:Value)(c r1 r2 r3:Nat)(l1 l2 l3:List Int)(w:World)(h1:I8V w v1 l1)(h2:I8V w v2 l2)(h3:I8V w v3 l3)(hc:c<=255)(hr1:r1<=255)(hr2:r2<=255)(hr3:r3<=255):
  Calls Tryz.prog 4 #[.agg #[.int .u8 c,.int .u8 r1,v1,.int .u8 r2,v2,.int .u8 r3,v3]] w fun e w'=>e= .returned (.bool true)/\Below w.heap.size w w':=by
 obtain⟨o1,n1,k1,rfl,-⟩:=id h1;obtain⟨o2,n2,k2,rfl,-⟩:=id h2;obtain⟨o3,n3,k3,rfl,-⟩:=id h3;have H1:=xgv h1;have H2:=xgv h2;have H3:=xgv h3;obtain⟨C,hC⟩:∃C:Nat,C=c%4:=⟨_,rfl⟩;have hC3:C<=3:=by omega
 have HMade:zAN (∀w,I8V w (.slice o1 n1 k1) l1->I8V w (.slice o2 n2 k2) l2->I8V w (.slice o3 n3 k3) l3->Calls Tryz.prog 13 #[.agg #[.int .u8 c,.int .u8 r1,.slice o1 n1 k1,.int .u8 r2,.slice o2 n2 k2,.int .u8 r3,.slice o3 n3 k3]] w fun e w'=>∃a b d,e= .returned (.tuple #[a,b,d])/\MX C 4 (zHB C r1 l1) w' a/\MX C 4 (zHB C r2 l2) w' b/\MX C 4 (zHB C r3 l3) w' d/\Below w.heap.size w w'):=⟨fun w h1 h2 h3=>zPS _ _ _ c r1 r2 r3 l1 l2 l3 w h1 h2 h3 hc hr1 hr2 hr3 hC⟩;have DA:zAN (Gd C 33 (zHB C r1 l1)):=⟨zRB hC3 l1⟩;have DB:zAN (Gd C 33 (zHB C r2 l2)):=⟨zRB hC3 l2⟩;have DC:zAN (Gd C 33 (zHB C r3 l3)):=⟨zRB hC3 l3⟩;have DS:zAN (Gd C 33 (zJZ C (zHB C r1 l1) (zHB C r2 l2))):=⟨zVf hC3 l1 l2⟩;obtain⟨La,hLa⟩:∃La,zHB C r1 l1=La:=⟨_,rfl⟩;obtain⟨Lb,hLb⟩:∃Lb,zHB C r2 l2=Lb:=⟨_,rfl⟩;obtain⟨Lc,hLc⟩:∃Lc,zHB C r3 l3=Lc:=⟨_,rfl⟩;rw[hLa,hLb,hLc]at HMade;rw[hLa]at DA;rw[hLb]at DB;rw[hLc]at DC;rw[hLa,hLb]at DS;clear hLa hLb hLc;have DT:zAN (Gd C 149 (zJZ C (zJZ C La Lb) Lc)):=⟨zWz DS.out (DC.out.mono dE) hC3⟩;obtain⟨fa,hfa⟩:∃f:Bool,f=true↔∀x,La x->Lc x:=zQ6 _;obtain⟨fb,hfb⟩:∃f:Bool,f=true↔∀x,Lb x->Lc x:=zQ6 _;have FA:zAN (Ans fa (∀x,La x->Lc x)):=⟨hfa⟩;have FB:zAN (Ans fb (∀x,Lb x->Lc x)):=⟨hfb⟩;have FS:zAN (Ans (fa && fb) (∀x,zJZ C La Lb x->Lc x)):=⟨by unfold Ans;rw[zCN,hfa,hfb,<-zUN DA.out.lat DB.out.lat DC.out.lat]⟩;clear hfa hfb;clear h1 h2 h3 hC;go_enter Tryz.func4,Tryz.ntmps4;go_upto_region 1 with(fail)
 refine zD ?_;intro W0 hW0;obtain⟨hB0,bx,hs0⟩:=qM hW0;clear hW0;go_wp2_with fail
 refine(zMC W0).mono ?_;rintro e w1 ⟨rfl,hb1⟩;have hB:=nx hB0 hb1;have bx:=bx.below hb1;have f0:=bx.cell 0;have f1:=bx.cell 1;have f2:=bx.cell 2;have f3:=bx.cell 3;have f4:=bx.cell 4;have f5:=bx.cell 5;have f6:=bx.cell 6;go_wp2_with fail
 refine(HMade.out w1 (H1.out.below hB) (H2.out.below hB) (H3.out.below hB)).mono ?_;rintro e w2 ⟨va,vb,vc,rfl,ha,hb,hc,hb2⟩;have hB:=nx hB hb2;have bx:=bx.below hb2;obtain⟨aR,ao,an,ak,rfl⟩:=ha.agg;obtain⟨bR,bo,bn,bk,rfl⟩:=hb.agg;obtain⟨cR,co,cn,ck,rfl⟩:=hc.agg;clear f0 f1 f2 f3 f4 f5 f6 HMade;go_upto_region 3 with(fail)
 refine zD ?_;intro W3 hW3;obtain⟨hB3,bA,bB,bC,hs3⟩:=zCH hW3;clear hW3;have XA:=xgv (ha.below hB3);have XB:=xgv (hb.below hB3);have XC:=xgv (hc.below hB3);clear ha hb hc;have hB:=nx hB hB3;have bx:=bx.below hB3;obtain⟨c1,c2,c3,c4,c5,c6⟩:=bA.three;obtain⟨d1,d2,d3,d4,d5,d6⟩:=bB.three;go_wp2_with fail
 refine(zXB (e:=4) (f:=33) _ _ W3 hC3 dE XA.out XB.out DS.out.bd dE).mono ?_;rintro e w11 ⟨v,rfl,hm,hb1⟩;have hB:=nx hB hb1;have bx:=bx.below hb1;have bA:=bA.below hb1;have XA:=xgv (XA.out.below hb1);have bB:=bB.below hb1;have XB:=xgv (XB.out.below hb1);have bC:=bC.below hb1;have XC:=xgv (XC.out.below hb1);obtain⟨w11R,w11o,w11n,w11k,rfl⟩:=hm.agg;have Xw11:=xgv hm;clear hm;clear c1 c2 c3 c4 c5 c6 d1 d2 d3 d4 d5 d6;go_upto_region 4 with(fail)
 refine zD ?_;intro W12 hW12;obtain⟨hb1,bS,hsW12⟩:=qM hW12;clear hW12;have hB:=nx hB hb1;have bx:=bx.below hb1;have bA:=bA.below hb1;have XA:=xgv (XA.out.below hb1);have bB:=bB.below hb1;have XB:=xgv (XB.out.below hb1);have bC:=bC.below hb1;have XC:=xgv (XC.out.below hb1);have Xw11:=xgv (Xw11.out.below hb1);obtain⟨c1,c2,c3,c4,c5,c6⟩:=bS.three;obtain⟨d1,d2,d3,d4,d5,d6⟩:=bC.three;go_wp2_with fail
 refine(zXB (e:=33) (f:=149) _ _ W12 hC3 dE (BX.mx Xw11.out hC3 DS.out.bd) (XC.out.mono dE) DT.out.bd dE).mono ?_;rintro e w13 ⟨v,rfl,hm,hb1⟩;have hB:=nx hB hb1;have bx:=bx.below hb1;have bA:=bA.below hb1;have XA:=xgv (XA.out.below hb1);have bB:=bB.below hb1;have XB:=xgv (XB.out.below hb1);have bC:=bC.below hb1;have XC:=xgv (XC.out.below hb1);have Xw11:=xgv (Xw11.out.below hb1);have bS:=bS.below hb1;obtain⟨w13R,w13o,w13n,w13k,rfl⟩:=hm.agg;have Xw13:=xgv hm;clear hm;clear c1 c2 c3 c4 c5 c6 d1 d2 d3 d4 d5 d6;go_upto_region 5 with(fail)
 refine zD ?_;intro W14 hW14;obtain⟨hb1,bT,hsW14⟩:=qM hW14;clear hW14;have hB:=nx hB hb1;have bx:=bx.below hb1;have bA:=bA.below hb1;have XA:=xgv (XA.out.below hb1);have bB:=bB.below hb1;have XB:=xgv (XB.out.below hb1);have bC:=bC.below hb1;have XC:=xgv (XC.out.below hb1);have Xw11:=xgv (Xw11.out.below hb1);have bS:=bS.below hb1;have Xw13:=xgv (Xw13.out.below hb1);obtain⟨c1,c2,c3,c4,c5,c6⟩:=bA.three;obtain⟨d1,d2,d3,d4,d5,d6⟩:=bS.three;go_wp2_with fail
 refine(zDm (e:=33) _ _ W14 hC3 dE (XA.out.mono dE) (BX.mx Xw11.out hC3 DS.out.bd) DS.out.bd (ans:=true) ⟨fun _ x hx=>zK8 DB.out.lat hx,fun _=>rfl⟩).mono ?_;rintro e w15 ⟨v,rfl,rfl,hb1⟩;have hB:=nx hB hb1;have bx:=bx.below hb1;have bA:=bA.below hb1;have XA:=xgv (XA.out.below hb1);have bB:=bB.below hb1;have XB:=xgv (XB.out.below hb1);have bC:=bC.below hb1;have XC:=xgv (XC.out.below hb1);have Xw11:=xgv (Xw11.out.below hb1);have bS:=bS.below hb1;have Xw13:=xgv (Xw13.out.below hb1);have bT:=bT.below hb1;clear c1 c2 c3 c4 c5 c6 d1 d2 d3 d4 d5 d6;obtain⟨c1,c2,c3,c4,c5,c6⟩:=bB.three;obtain⟨d1,d2,d3,d4,d5,d6⟩:=bS.three;go_wp2_with fail
 refine(zDm (e:=33) _ _ w15 hC3 dE (XB.out.mono dE) (BX.mx Xw11.out hC3 DS.out.bd) DS.out.bd (ans:=true) ⟨fun _ x hx=>zMI DA.out.lat hx,fun _=>rfl⟩).mono ?_;rintro e w16 ⟨v,rfl,rfl,hb1⟩;have hB:=nx hB hb1;have bx:=bx.below hb1;have bA:=bA.below hb1;have XA:=xgv (XA.out.below hb1);have bB:=bB.below hb1;have XB:=xgv (XB.out.below hb1);have bC:=bC.below hb1;have XC:=xgv (XC.out.below hb1);have Xw11:=xgv (Xw11.out.below hb1);have bS:=bS.below hb1;have Xw13:=xgv (Xw13.out.below hb1);have bT:=bT.below hb1;clear c1 c2 c3 c4 c5 c6 d1 d2 d3 d4 d5 d6;obtain⟨c1,c2,c3,c4,c5,c6⟩:=bS.three;obtain⟨d1,d2,d3,d4,d5,d6⟩:=bT.three;go_wp2_with fail
 refine(zDm (e:=149) _ _ w16 hC3 dE ((BX.mx Xw11.out hC3 DS.out.bd).mono dE) (BX.mx Xw13.out hC3 DT.out.bd) DT.out.bd (ans:=true) ⟨fun _ x hx=>zK8 DC.out.lat hx,fun _=>rfl⟩).mono ?_;rintro e w17 ⟨v,rfl,rfl,hb1⟩;have hB:=nx hB hb1;have bx:=bx.below hb1;have bA:=bA.below hb1;have XA:=xgv (XA.out.below hb1);have bB:=bB.below hb1;have XB:=xgv (XB.out.below hb1);have bC:=bC.below hb1;have XC:=xgv (XC.out.below hb1);have Xw11:=xgv (Xw11.out.below hb1);have bS:=bS.below hb1;have Xw13:=xgv (Xw13.out.below hb1);have bT:=bT.below hb1;clear c1 c2 c3 c4 c5 c6 d1 d2 d3 d4 d5 d6;rcases fa with _|_
 ·
  go_upto_region 6 with(fail)
  obtain⟨c1,c2,c3,c4,c5,c6⟩:=bS.three;obtain⟨d1,d2,d3,d4,d5,d6⟩:=bC.three;obtain⟨f1,f2,f3,f4,f5,f6⟩:=bA.three;refine zCn [pcD 4 [] (fun _ v=>v= .bool false),pcD 7 [] (fun _ v=>v= .bool false)] ?_;refine sRd ?_;refine sRc (fun wS hI Gk hG=>?_) (fun _ hv=>?_)
  ·go_simp
   refine(zDm (e:=33) _ _ _ hC3 dE (BX.mx (Xw11.out.below hI.bel) hC3 DS.out.bd) ((XC.out.below hI.bel).mono dE) DC.out.bd (ans:=false) FS.out).mono ?_;rintro e wa ⟨v,rfl,hv,hba⟩;exact⟨_,rfl,hG _ _ hv,hba⟩
  obtain⟨_,-,rfl⟩:=hv;refine sRd ?_;refine sRc (fun wS hI Gk hG=>?_) (fun _ hv=>?_)
  ·go_simp
   refine(zDm (e:=33) _ _ _ hC3 dE ((XA.out.below hI.bel).mono dE) ((XC.out.below hI.bel).mono dE) DC.out.bd (ans:=false) FA.out).mono ?_;rintro e wa ⟨v,rfl,hv,hba⟩;exact⟨_,rfl,hG _ _ hv,hba⟩
  obtain⟨_,-,rfl⟩:=hv;refine sRd ?_;refine sRe ?_;intro x18 hbx18 _ _;clear c1 c2 c3 c4 c5 c6 d1 d2 d3 d4 d5 d6 f1 f2 f3 f4 f5 f6;have hB:=nx hB hbx18;have bx:=bx.below hbx18;have bA:=bA.below hbx18;have XA:=xgv (XA.out.below hbx18);have bB:=bB.below hbx18;have XB:=xgv (XB.out.below hbx18);have bC:=bC.below hbx18;have XC:=xgv (XC.out.below hbx18);have Xw11:=xgv (Xw11.out.below hbx18);have bS:=bS.below hbx18;have Xw13:=xgv (Xw13.out.below hbx18);have bT:=bT.below hbx18;go_wp2;go_ret;exact⟨rfl,hB⟩
 rcases fb with _|_
 ·
  go_upto_region 6 with(fail)
  obtain⟨c1,c2,c3,c4,c5,c6⟩:=bS.three;obtain⟨d1,d2,d3,d4,d5,d6⟩:=bC.three;obtain⟨f1,f2,f3,f4,f5,f6⟩:=bA.three;obtain⟨g1,g2,g3,g4,g5,g6⟩:=bB.three;refine zCn [pcD 4 [] (fun _ v=>v= .bool false),pcD 7 [] (fun _ v=>v= .bool true),pcD 11 [] (fun _ v=>v= .bool false)] ?_;refine sRd ?_;refine sRc (fun wS hI Gk hG=>?_) (fun _ hv=>?_)
  ·go_simp
   refine(zDm (e:=33) _ _ _ hC3 dE (BX.mx (Xw11.out.below hI.bel) hC3 DS.out.bd) ((XC.out.below hI.bel).mono dE) DC.out.bd (ans:=false) FS.out).mono ?_;rintro e wa ⟨v,rfl,hv,hba⟩;exact⟨_,rfl,hG _ _ hv,hba⟩
  obtain⟨_,-,rfl⟩:=hv;refine sRd ?_;refine sRc (fun wS hI Gk hG=>?_) (fun _ hv=>?_)
  ·go_simp
   refine(zDm (e:=33) _ _ _ hC3 dE ((XA.out.below hI.bel).mono dE) ((XC.out.below hI.bel).mono dE) DC.out.bd (ans:=true) FA.out).mono ?_;rintro e wa ⟨v,rfl,hv,hba⟩;exact⟨_,rfl,hG _ _ hv,hba⟩
  obtain⟨_,-,rfl⟩:=hv;refine sRd ?_;refine sRc (fun wS hI Gk hG=>?_) (fun _ hv=>?_)
  ·go_simp
   refine(zDm (e:=33) _ _ _ hC3 dE ((XB.out.below hI.bel).mono dE) ((XC.out.below hI.bel).mono dE) DC.out.bd (ans:=false) FB.out).mono ?_;rintro e wa ⟨v,rfl,hv,hba⟩;exact⟨_,rfl,hG _ _ hv,hba⟩
  obtain⟨_,-,rfl⟩:=hv;refine sRd ?_;refine sRe ?_;intro x19 hbx19 _ _ _;clear c1 c2 c3 c4 c5 c6 d1 d2 d3 d4 d5 d6 f1 f2 f3 f4 f5 f6 g1 g2 g3 g4 g5 g6;have hB:=nx hB hbx19;have bx:=bx.below hbx19;have bA:=bA.below hbx19;have XA:=xgv (XA.out.below hbx19);have bB:=bB.below hbx19;have XB:=xgv (XB.out.below hbx19);have bC:=bC.below hbx19;have XC:=xgv (XC.out.below hbx19);have Xw11:=xgv (Xw11.out.below hbx19);have bS:=bS.below hbx19;have Xw13:=xgv (Xw13.out.below hbx19);have bT:=bT.below hbx19;go_wp2;go_ret;exact⟨rfl,hB⟩
 go_upto_region 6 with(fail)
 obtain⟨c1,c2,c3,c4,c5,c6⟩:=bS.three;obtain⟨d1,d2,d3,d4,d5,d6⟩:=bC.three;obtain⟨f1,f2,f3,f4,f5,f6⟩:=bA.three;obtain⟨g1,g2,g3,g4,g5,g6⟩:=bB.three;refine zCn [pcD 4 [] (fun _ v=>v= .bool true),pcD 7 [] (fun _ v=>v= .bool true),pcD 11 [] (fun _ v=>v= .bool true)] ?_;refine sRd ?_;refine sRc (fun wS hI Gk hG=>?_) (fun _ hv=>?_)
 ·go_simp
  refine(zDm (e:=33) _ _ _ hC3 dE (BX.mx (Xw11.out.below hI.bel) hC3 DS.out.bd) ((XC.out.below hI.bel).mono dE) DC.out.bd (ans:=true) FS.out).mono ?_;rintro e wa ⟨v,rfl,hv,hba⟩;exact⟨_,rfl,hG _ _ hv,hba⟩
 obtain⟨_,-,rfl⟩:=hv;refine sRd ?_;refine sRc (fun wS hI Gk hG=>?_) (fun _ hv=>?_)
 ·go_simp
  refine(zDm (e:=33) _ _ _ hC3 dE ((XA.out.below hI.bel).mono dE) ((XC.out.below hI.bel).mono dE) DC.out.bd (ans:=true) FA.out).mono ?_;rintro e wa ⟨v,rfl,hv,hba⟩;exact⟨_,rfl,hG _ _ hv,hba⟩
 obtain⟨_,-,rfl⟩:=hv;refine sRd ?_;refine sRc (fun wS hI Gk hG=>?_) (fun _ hv=>?_)
 ·go_simp
  refine(zDm (e:=33) _ _ _ hC3 dE ((XB.out.below hI.bel).mono dE) ((XC.out.below hI.bel).mono dE) DC.out.bd (ans:=true) FB.out).mono ?_;rintro e wa ⟨v,rfl,hv,hba⟩;exact⟨_,rfl,hG _ _ hv,hba⟩
 obtain⟨_,-,rfl⟩:=hv;refine sRd ?_;refine sRe ?_;intro x20 hbx20 _ _ _;clear c1 c2 c3 c4 c5 c6 d1 d2 d3 d4 d5 d6 f1 f2 f3 f4 f5 f6 g1 g2 g3 g4 g5 g6;have hB:=nx hB hbx20;have bx:=bx.below hbx20;have bA:=bA.below hbx20;have XA:=xgv (XA.out.below hbx20);have bB:=bB.below hbx20;have XB:=xgv (XB.out.below hbx20);have bC:=bC.below hbx20;have XC:=xgv (XC.out.below hbx20);have Xw11:=xgv (Xw11.out.below hbx20);have bS:=bS.below hbx20;have Xw13:=xgv (Xw13.out.below hbx20);have bT:=bT.below hbx20;go_wp2;go_ret;exact⟨rfl,hB⟩
end Go.Proofs.YtkidaebmhlijlaaGreat

namespace Go.Proofs.YtkidaebmhlijlaaGreat
open Go.ChangeShapes Go.WideShapes Go.ChangeAt Go.RowKit
theorem zHP(os:Os)(started:os.Started)(H:Type)(enc:TypeId × Value->H):
  ReturnsInHanded {} Tryz.checked os 4 .any (Rows.moduleSumsSpec.pre6 enc Tryz.prog Tryz.f4 Rows.moduleSumsRow.domain false) (Rows.moduleSumsSpec.post enc Tryz.prog Tryz.f4 false true false false):=by
 refine returnsInHanded_of_change (C:=Tryz.checked) Tryz.own started kR Tryz.func4
  (ChangeSpec.witness6 (enc:=enc) (C:=Tryz.checked) false ⟨#[],#[.agg #[.int .u8 0,.int .u8 0,.slice none 0 0,.int .u8 0,.slice none 0 0,.int .u8 0,.slice none 0 0]],[]⟩ 8 kR kR kR kR) ?_
 intro W base args ds gs before hval0 hW hcnd _;have hval:∀(j:Nat) t v,Tryz.f4.params[j]?=some t->args[j]?=some v->Value.okWide Tryz.prog W .any base t v:=hval0;have hW':=hW;obtain⟨p,q,hA0,hV,rfl,hfz,hnd⟩:=hW;have hA:DataW.TrodAll enc Tryz.prog W 0 (fun _=>true) true Tryz.f4.params.toList args.toList ds p:=hA0;rw[Tryz.params4]at hA hval;obtain⟨v0,d0,rfl,rfl,h0⟩:=trodAll_one hA;obtain⟨rfl,rfl⟩:=trodVars_none hV;clear hA0 hval0;simp only[List.append_nil]at hW';have hlt0:∀x∈p,x.block<W.heap.size:=fun x hx=>hW'.lt x (by simp[hx])
 obtain⟨c,r1,r2,r3,u1,u2,u3,l1,l2,l3,rfl,hc,hr1,hr2,hr3,I1,I2,I3⟩:=zNR (hval 0 26 v0 rfl rfl) h0 hlt0;refine(zJP u1 u2 u3 c r1 r2 r3 l1 l2 l3 W I1 I2 I3 hc hr1 hr2 hr3).mono fun e W' ⟨he,hB⟩=>?_
 subst he;refine⟨_,rfl,_,_,_,[],p,[],hW',?_,?_,rfl,hB.frame _,fun h=>by cases h⟩;exact trodAll_mk1 (shut_bool Tryz.underlying4 true);exact trodAll_mk1 (Below.trod Tryz.laidOut kR (of_decide_eq_true kR) h0 hB hlt0)
theorem zKr:(Rows.moduleSumsRow.inPlace==Tryz.pinned.checked.prog.inPlace 4)=true:=by kernel_rfl
theorem zKs:(Rows.moduleSumsRow.unfollowed==Tryz.pinned.checked.prog.unfollowed 4)=true:=by kernel_rfl
theorem zKt:(Rows.moduleSumsRow.recurses==Tryz.pinned.checked.prog.recurses 4)=true:=by kernel_rfl
theorem zKu:(Rows.moduleSumsRow.named==Tryz.pinned.checked.prog.varsNamed 4)=true:=by kernel_rfl
theorem zHO:joinedFacts Tryz.pinned.checked.prog 4 Tryz.f4 Rows.moduleSumsSpec Rows.moduleSumsRow=true:=by
 unfold joinedFacts;rw[zKr,zKs,zKt,zKu];kernel_rfl
theorem moduleSums_holds:Rows.ModuleSumsSaid:=
 OpenClaim.holds_of_wide 4 Tryz.f4 rfl rfl rfl rfl rfl rfl rfl ⟨rfl,rfl,rfl,rfl,rfl⟩ rfl rfl rfl rfl rfl kR Tryz.func4 zHO
  (of_decide_eq_true kR) (by unfold Func.isWrapper;first|(rw[if_pos (by decide+kernel)];kernel_rfl)|(rw[if_neg (by decide+kernel)];exact⟨rfl,rfl⟩))
  (fun os started H enc _=>zHP os started H enc)
end Go.Proofs.YtkidaebmhlijlaaGreat
