/- Joined. -/
import Derived.Test.YtkidaebmhlijlaaGreatE31
import Derived.Test.YtkidaebmhlijlaaGreatE32
set_option linter.unusedVariables false
set_option linter.unusedSimpArgs false
set_option linter.unusedSectionVars false
set_option maxHeartbeats 16000000
set_option maxRecDepth 100000
variable{L L' L1 L1' L2 L2':(Nat->Int)->Prop}{a1 ans:Bool}{a b z:Int}{M N:List (List Int)}{ts:List Int}{C Q R e e' f h m r r1 r2:Nat}{x:Nat->Int}{c c':Nat->Nat}{A B G P:Nat->Nat->Int}{t:Go.TypeId}{v:Go.Value}{W w w':Go.World}
namespace Go.Proofs.YtkidaebmhlijlaaGreat
open Go.RowKit
def Bd(C e:Nat)(L:(Nat->Int)->Prop):Prop:=∀m G,HB C m G L->leM (2^e) m C G
def MX(C e:Nat)(L:(Nat->Int)->Prop)(w:World)(v:Value):Prop:=∃R M,zAQ w v (R:Nat) (C:Nat) M/\zBW R C M/\R<=3/\leM (2^e) R C (ent M)/\∀x,yD R C (ent M) x↔L x
theorem zHi(C e:Nat)(L:(Nat->Int)->Prop):zAj (MX C e L):=fun _ _ _ b ⟨R,M,a,c⟩=>⟨R,M,a.I b,c⟩
theorem MX.I(h:MX C e L w v)(b:BWq w w'):MX C e L w' v:=zHi _ _ _ _ _ _ b h
theorem MX.agg(h:MX C e L w v):∃(R:Nat) (o:Option Addr) (n k:Nat),v= .agg #[niq R,niq C,.slice o n k]:=by
 obtain⟨R,M,a,-⟩:=h;obtain⟨o,n,k,rfl⟩:=a.agg;exact⟨R,o,n,k,rfl⟩
theorem BX.of(h:BX C L w v)(e:∀x,L x↔L' x):BX C L' w v:=by
 obtain⟨m,G,a,b⟩:=h;exact⟨m,G,a.of e,b⟩
theorem MX.mono(h:MX C e L w v)(k:e<=e'):MX C e' L w v:=by
 obtain⟨R,M,a,b,c,d,f⟩:=h;exact⟨R,M,a,b,c,d.mono (zX dE k),f⟩
theorem Bd.mono(h:Bd C e L)(k:e<=e'):Bd C e' L:=fun m G a=>(h m G a).mono (zX dE k)
theorem Bd.of(h:Bd C e L)(k:∀x,L x↔L' x):Bd C e L':=fun m G a=>h m G (a.of fun x=>(k x).symm)
theorem zE8(e:Nat):1<=2^e:=qG dE
theorem zEa(e:Nat):2*2^e<=2^(e+1):=by rw[qE];omega
theorem zCB.congr{M d:(Nat->Int)->Prop}(h:∀x,L x↔L' x)(k:∀x,M x↔d x)(x:Nat->Int):zCB C L M x↔zCB C L' d x:=
 ⟨fun⟨u,v,a,b,c⟩=>⟨u,v,(h u).1 a,(k v).1 b,c⟩,fun⟨u,v,a,b,c⟩=>⟨u,v,(h u).2 a,(k v).2 b,c⟩⟩
theorem zPg(b:e<=2000)(hF:zBW R C M)(a:leM (2^e) R C (ent M)):∀r∈M,∀z∈r,Sm z:=zLS (h:=2^e) (e:=e+1) (zEa e) oM hF a
theorem zEk(d:e<=1999)(hF:zBW R C M)(c:R<=6)(b:C<=3)(a:leM (2^e) R C (ent M))(v:Value)(w:World)(h:zAQ w v R C M):
  CPq 59 #[v] w fun e w'=>∃v,e= .returned v/\zIg R C (ent M) w' v/\BWq w w':=
 zYH (h:=2^e) (e:=e+1) (zE8 e) (zEa e) oM v M R C w h hF c b a
theorem zYq(hF:zBW R C M)(f:zBW Q C N)(d:leM h R C (ent M))(e:leM h Q C (ent N)):leM h (R+Q) C (ent (M++N)):=fun a g b c=>by
 rw[zJu hF f];unfold zJA;split;exact d a (by assumption) b c;exact e _ oM b c
theorem qBD(g i:Value)(w:World)(m:C<=3)(n:e<=1999)(h1:MX C e L1 w g)(h2:MX C e L2 w i):
  CPq 16 #[g,i] w fun e w'=>∃v,e= .returned (.tuple #[v,niq 0])/\BX C (zCB C L1 L2) w' v/\BWq w w':=by
 obtain⟨R,M,q,d,r1,j,t⟩:=h1;obtain⟨Q,N,s,f,r2,k,u⟩:=h2;refine(zWG g i R Q C C M N w q s d f oM oM oM (zPg oM d j) (zPg oM f k) rfl fun v w h=>zEk n (zP8 d f) oM m (zYq d f j k) v w h).mono ?_;rintro y w' ⟨v,rfl,⟨r,c,G,o,p⟩,l⟩;exact⟨v,rfl,⟨r,G,o.hb.of fun x=>(yD.congr (fun a z b l=>zJu d f b) x).trans ((yD.stk x).trans (zCB.congr t u x)),p⟩,l⟩
theorem zHC(a:Bd C e L)(s:∀x,yD R C (ent M) x↔L x)(h:zJY R C r c (ent M) G):leM (2^e) r C G:=a r G (h.hb.of s)
theorem zTa(b d:Value)(w:World)(a:C<=3)(i:e<=1999)(h1:MX C e L1 w b)(h2:MX C e L2 w d)(o:Bd C e L1)(p:Bd C e L2):
  CPq 18 #[b,d] w fun e w'=>∃v,e= .returned (.tuple #[v,niq 0])/\BX C (zDI L1 L2) w' v/\BWq w w':=by
 obtain⟨R,M,s,f,r1,l,j⟩:=h1;obtain⟨Q,N,t,g,r2,m,k⟩:=h2;refine(zRb b d R Q C C (2^e) (e+1) M N w s t f g a rfl (zE8 e) (zEa e) oM (fun v w h=>zEk i f oM a l v w h) (fun v w h=>zEk i g oM a m v w h) (fun r c G h=>zHC o j h) (fun r c G h=>zHC p k h)).mono ?_;rintro u w' ⟨v,rfl,q,n⟩;exact⟨v,rfl,q.of fun x=>and_congr (j x) (k x),n⟩
theorem zQE(f:Bd C e L)(s:∀x,yD R C (ent M) x↔L x)(h:zJY R C r c (ent M) G):HNw r C (e+1) (genM r C G):=by
 obtain⟨j,i⟩:=h.hb.hnf;refine⟨jJ _ _ _,⟨r,j,i.congr fun a d b f=>(yZ d f).symm⟩,fun a d b g=>?_⟩;rw[yZ d g];have k:=zHC f s h a d b g;have l:=zEa e;have m:=zE8 e;omega
theorem zUs(a:∀x,yD R C (ent M) x↔L1 x)(b:∀x,yD Q C (ent N) x↔L2 x):(∀i,i<R->yD Q C (ent N) (ent M i))↔∀x,L1 x->L2 x:=
 ⟨fun h x d=>(b x).1 (yD.sub h ((a x).2 d)),fun h i c=>(b _).2 (h _ ((a _).1 (yD.row _ c)))⟩
theorem zET(a b:Value)(w:World)(l:C<=3)(s:e<=1998)(h1:MX C e L1 w a)(h2:MX C e L2 w b)(n:Bd C e L2)(m:ans=true↔∀x,L1 x->L2 x):
  CPq 25 #[a,b] w fun e w'=>∃v,e= .returned v/\v= .bool ans/\BWq w w':=by
 obtain⟨R,M,o,j,r1,g,q⟩:=h1;obtain⟨Q,N,p,d,r2,i,f⟩:=h2;exact zPE (e:=e+1) (k:=2^e) a b M N w o p j d oM oM rfl (fun v w h=>zEk oM d oM l i v w h) (fun r c G h=>zQE n f h) oM (zX dE oM) g (m.trans (zUs q f).symm)
theorem zS2(a d:Value)(x:Nat->Int)(w:World)(j:C<=3)(p:e<=1998)(h1:MX C e L w a)(h2:zBy w d (yV C x))(m:Bd C e L)(n:∀b,b<C->(x b).natAbs<=2^e)(l:ans=true↔L x):
  CPq 35 #[a,d] w fun e w'=>∃v,e= .returned v/\v= .bool ans/\BWq w w':=by
 obtain⟨R,M,o,f,r1,i,g⟩:=h1;exact zMQ (e:=e+1) (k:=2^e) a d M x w o f h2 oM (fun v w h=>zEk oM f oM j i v w h) (fun r c G h=>zQE m g h) oM (zX dE oM) n (l.trans (g x).symm)
theorem zK8(a b:Value)(w:World)(f:C<=3)(o:e<=1998)(h1:MX C e L1 w a)(h2:MX C e L2 w b)(l:ans=true↔∀x,L1 x↔L2 x):
  CPq 27 #[a,b] w fun e w'=>∃v,e= .returned v/\v= .bool ans/\BWq w w':=by
 obtain⟨R,M,m,c,r1,j,g⟩:=h1;obtain⟨Q,N,n,d,r2,k,i⟩:=h2;exact zO9 a b R Q C C M N w m n c d oM rfl (fun v w h=>zEk oM c oM f j v w h) (fun v w h=>zEk oM d oM f k v w h) (l.trans (forall_congr' fun x=>⟨fun h=>(g x).trans (h.trans (i x).symm),fun h=>(g x).symm.trans (h.trans (i x))⟩))
theorem zPk(h:e<=117):8*2^e<=SW:=by
 rw[zL2,show(120:Nat)=117+3 from rfl,yM];have:=zX (show 0<2 by decide) h;omega
theorem zSX.of(h:zSX C L1 L2 b ts)(h1:∀x,L1 x↔L1' x)(h2:∀x,L2 x↔L2' x):zSX C L1' L2' b ts:=by
 obtain⟨m,k,r,P,Q,K,F,a1,a,c⟩:=h;exact⟨m,k,r,P,Q,K,F,a1.of h1,a.of h2,c⟩
theorem zHT.of(h:zHT C L1 L2 z)(h1:∀x,L1 x↔L1' x)(h2:∀x,L2 x↔L2' x):zHT C L1' L2' z:=by
 obtain⟨m,c,c',P,Q,a1,a,b⟩:=h;exact⟨m,c,c',P,Q,a1.of h1,a.of h2,b⟩
theorem qAH.imp{P Q:Int->List Int->Prop}(h:qAH P w v)(k:∀b ts,P b ts->Q b ts):qAH Q w v:=by
 obtain⟨b,ts,o,n,c,a,d,e⟩:=h;exact⟨b,ts,o,n,c,a,d,k _ _ e⟩
theorem zZ3(j l:Value)(w:World)(i:C<=3)(H:e<=1998)(h1:MX C e L1 w j)(h2:MX C e L2 w l)(u:Bd C e L1)(y:Bd C f L2)(z:f<=117)(A:f<=e+1)(s:a1=true↔∀x,L2 x->L1 x):
  CPq 22 #[j,l] w fun e w'=>∃v k,e= .returned (.tuple #[v,niq k])/\qA2 a1 (zSX C L1 L2) w' v k/\BWq w w':=by
 obtain⟨R,M,D,m,r1,o,a⟩:=h1;obtain⟨Q,N,E,n,r2,p,d⟩:=h2;refine(zTv j l R Q C (2^e) (2^f) (e+1) M N w D E m n i (zE8 e) (zEa e) (zX dE A) oM (zPk z) (fun v w h=>zEk oM m oM i o v w h) (fun v w h=>zEk oM n oM i p v w h) (fun r c G h=>zHC u a h) (fun r c G h=>zHC y d h) (a1:=a1) (s.trans (forall_congr' fun x=>⟨fun h g=>(a x).2 (h ((d x).1 g)),fun h g=>(a x).1 (h ((d x).2 g))⟩))).mono ?_;rintro F w' ⟨v,k,rfl,B,t⟩;exact⟨v,k,rfl,B.imp id fun⟨h1,h2,q⟩=>⟨h1,h2,q.imp fun b ts h=>h.of a d⟩,t⟩
theorem zHf(i j:Value)(w:World)(d:C<=3)(L:e<=1998)(h1:MX C e L1 w i)(h2:MX C e L2 w j)(B:Bd C e L1)(D:Bd C f L2)(E:f<=117)(F:f<=e+1){a2:Bool}(u:a1=true↔∀x,L2 x->L1 x)(y:∀m k P U,HB C m P L1->HB C k U L2->(a2=true↔m=k)):
  CPq 20 #[i,j] w fun e w'=>∃v k,e= .returned (.tuple #[v,niq k])/\qAy a1 a2 (zHT C L1 L2) w' v k/\BWq w w':=by
 obtain⟨R,M,I,l,r1,o,a⟩:=h1;obtain⟨Q,N,J,n,r2,p,b⟩:=h2;refine(zRa i j R Q C (2^e) (2^f) (e+1) M N w I J l n d (zE8 e) (zEa e) (zX dE F) oM (zPk E) (fun v w h=>zEk oM l oM d o v w h) (fun v w h=>zEk oM n oM d p v w h) (fun r c G h=>zHC B a h) (fun r c G h=>zHC D b h) (a1:=a1) (a2:=a2) (u.trans (forall_congr' fun x=>⟨fun h g=>(a x).2 (h ((b x).1 g)),fun h g=>(a x).1 (h ((b x).2 g))⟩)) (fun m k P U h1 h2=>y m k P U (h1.of a) (h2.of b))).mono ?_;rintro K w' ⟨v,k,rfl,H,A⟩;exact⟨v,k,rfl,H.imp id fun h=>h.imp id fun⟨h1,h2,q,z,s,t⟩=>⟨h1,h2,q,z,s,t.of a b⟩,A⟩
theorem zSp(b:h<=2^e):bB h<=2^(4*e+17):=by
 have a:(8*h)^4<=2^((e+3)*4):=by
  rw[jT];exact yU (by rw[yM];omega) 4
 rw[show 4*e+17=(e+3)*4+5 by omega,yM];unfold bB;omega
theorem zOY(b:C<=4)(a:leM (2^e) R C A):Bd C (4*e+17) (yD R C A):=fun m G c=>(zOX c b (zE8 e) a).mono (zSp (xgf _))
theorem MX.bd(h:MX C e L w v)(c:C<=3):Bd C (4*e+17) L:=by
 obtain⟨R,M,-,-,-,a,b⟩:=h;exact(zOY oM a).of b
theorem zGL{v:Array Value}(b:Blk W r 32 v)(a:v.size=3):(loadVar 32 ⟨r,0,none⟩).run Tryz.prog W= .ok (.agg v) W:=zKW b a
theorem zPc{fn:Func}{a b c:Tmp}(h:fn.results=#[.cell a 32,.cell b 32,.cell c 32])(tmps:Array Value){W:World}{d e f:Nat}{g i j:Array Value}
  (o:tmps.getD a undef=ptq d 0) (q:tmps.getD b undef=ptq e 0) (s:tmps.getD c undef=ptq f 0)
  (l:Blk W d 32 g) (m:Blk W e 32 i) (n:Blk W f 32 j) (h1:g.size=3) (h2:i.size=3) (k:j.size=3):
  (results fn tmps).run Tryz.prog W= .ok (.tuple #[.agg g,.agg i,.agg j]) W:=by
 have p:tmps[a]?.getD undef=ptq d 0:=by simpa using o
 have r:tmps[b]?.getD undef=ptq e 0:=by simpa using q
 have t:tmps[c]?.getD undef=ptq f 0:=by simpa using s
 simp[results,h,p,r,t,asAddr,zGL l h1,zGL m h2,zGL n k]
theorem MX.keep3{b:Nat}{cs:Array Value}(h:MX C e L w v)(d:Blk w b 32 cs)(x y z:Value):MX C e L (((w.setCell ⟨b,0,none⟩ x).setCell ⟨b,1,none⟩ y).setCell ⟨b,2,none⟩ z) v:=by
 obtain⟨R,M,a,c⟩:=h;exact⟨R,M,a.keep3 d _ _ _,c⟩
def zD1(C r:Nat)(ls:List Int):(Nat->Int)->Prop:=yD (r%4) C (zSY C ls)
theorem zHO(v:Value)(r C:Nat)(c:List Int)(w:World)(h:I8V w v c)(G:r<=255)(F:C<=16):
  CPq 53 #[.agg #[.int .u8 r,v],niq C] w fun e w'=>∃u,e= .returned u/\MX C 4 (zD1 C r c) w' u/\BWq w w':=by
 obtain⟨B,n,E,rfl,-,-,-,-,-⟩:=id h;obtain⟨R,k⟩:∃R:Nat,R=r%4:=⟨_,rfl⟩;have y:(r:Int)%4=(R:Int):=oM;have A:R<=3:=oM;have o:jI (zD1 C r c=yD R C (zSY C c)):=⟨by rw[k];rfl⟩;clear k;go_enter Tryz.func53,Tryz.ntmps53;go_upto_region 1 with(fail)
 refine zF ?_;intro q l;obtain⟨j,s,d,H⟩:=zAU l;have t:=s.two;clear l;go_wp2_with fail
 refine(zK9 _ R C c q (h.I j) oM oM).mono ?_;rintro e L ⟨u,D,rfl,i,m⟩;obtain⟨K,J,I,rfl⟩:=i.mat.1.agg;have d:=d.I m;have z:=nx j m;have p:=xgv i.mat.1;have r1:=d.three;clear t i y;go_wp2;refine zAD (r:=w.heap.size+1) rfl rfl rfl (d.put3 _ _ _) ⟨_,rfl,⟨R,_,p.out.keep3 d _ _ _,jJ _ _ _,A,fun a f b g=>?_,fun x=>?_⟩,yB (yB (yB z oM 0 _) oM 1 _) oM 2 _⟩
 .rw[yZ f g]
  exact zD (zJn C c a b) dE
 rw[o.out];exact yD.congr (fun a f b g=>yZ f g) x
theorem zGW(P Q R:Value)(c h i j:Nat)(k l m:List Int)(w:World)(h1:I8V w P k)(h2:I8V w Q l)(D:I8V w R m)(hc:c<=255)(a3:h<=255)(a4:i<=255)(a5:j<=255)(hC:C=c%4):
  CPq 13 #[.agg #[.int .u8 c,.int .u8 h,P,.int .u8 i,Q,.int .u8 j,R]] w fun e w'=>∃a b d,e= .returned (.tuple #[a,b,d])/\MX C 4 (zD1 C h k) w' a/\MX C 4 (zD1 C i l) w' b/\MX C 4 (zD1 C j m) w' d/\BWq w w':=by
 obtain⟨o1,n1,k1,rfl,-⟩:=id h1;obtain⟨o2,n2,k2,rfl,-⟩:=id h2;obtain⟨o3,n3,k3,rfl,-⟩:=id D;have e1:(c:Int)%4=(C:Int):=oM;have c2:C<=3:=oM;have T:=xgv h1;have U:=xgv h2;have V:=xgv D;clear hC h1 h2 D;go_enter Tryz.func13,Tryz.ntmps13;go_upto_region 1 with(fail)
 refine zF ?_;intro W0 O;obtain⟨u,f,g,s,t,c3⟩:=zLy O;have Z:=f.cell 0;have f1:=f.cell 1;have f2:=f.cell 2;have f3:=f.cell 3;have f4:=f.cell 4;have f5:=f.cell 5;have f6:=f.cell 6;have c4:=f.lt;clear O;go_upto_region 2 with(fail)
 have a0:=zHi C 4 (zD1 C h k);have a1:=zHi C 4 (zD1 C i l);have a2:=zHi C 4 (zD1 C j m);refine yA 12 [pcD 3 [] (MX C 4 (zD1 C h k)),pcD 7 [] (MX C 4 (zD1 C i l)),pcD 11 [] (MX C 4 (zD1 C j m))] ?_;refine sRd ?_;refine sRc (fun S hI N n=>by go_simp;exact ck n (zHO _ h C k _ ((T.out.I u).I hI.bel) a3 oM)) (fun a7 _=>?_);refine sRd ?_;refine sRc (fun S hI N n=>by go_simp;exact ck n (zHO _ i C l _ ((U.out.I u).I hI.bel) a4 oM)) (fun a8 _=>?_);refine sRd ?_;refine sRc (fun S hI N n=>by go_simp;exact ck n (zHO _ j C m _ ((V.out.I u).I hI.bel) a5 oM)) (fun a6 _=>?_);refine sRe ?_;intro r v p q o;have p:MX C 4 (zD1 C h k) r a7:=p;have q:MX C 4 (zD1 C i l) r a8:=q;have o:MX C 4 (zD1 C j m) r a6:=o;obtain⟨z,E,H,K,rfl⟩:=p.agg;obtain⟨A,F,I,L,rfl⟩:=q.agg;obtain⟨B,G,J,M,rfl⟩:=o.agg;have g:=g.I v;have s:=s.I v;have t:=t.I v;have hB:=nx u v;have W:=xgv p;have X:=xgv q;have Y:=xgv o;have g1:=g.three;obtain⟨g7,g8,g9,b3,b4,b5⟩:=s.three;obtain⟨b6,b7,b8,b9,c0,c1⟩:=t.three;clear Z f1 f2 f3 f4 f5 f6 p q o a0 a1 a2;go_wp2;have x:=(zAm r (w.heap.size+1) (w.heap.size+1+1) (niq z) (niq C) (.slice E H K) oM).trans s;have z3:=(zAm r (w.heap.size+1) (w.heap.size+1+1+1) (niq z) (niq C) (.slice E H K) oM).trans t;have y1:=g.put3 (niq z) (niq C) (.slice E H K);have y:=(zAm _ (w.heap.size+1+1) (w.heap.size+1+1+1) (niq A) (niq C) (.slice F I L) oM).trans z3;have a9:=(zAm _ (w.heap.size+1+1) (w.heap.size+1) (niq A) (niq C) (.slice F I L) oM).trans y1;have y2:=Blk.put3 x (niq A) (niq C) (.slice F I L);have b0:=(zAm _ (w.heap.size+1+1+1) (w.heap.size+1) (niq B) (niq C) (.slice G J M) oM).trans a9;have b2:=(zAm _ (w.heap.size+1+1+1) (w.heap.size+1+1) (niq B) (niq C) (.slice G J M) oM).trans y2;have y3:=Blk.put3 y (niq B) (niq C) (.slice G J M);refine bodyPost_ret (zPc rfl _ rfl rfl rfl b0 b2 y3 rfl rfl rfl) rfl ⟨_,_,_,rfl,((W.out.keep3 g _ _ _).keep3 x _ _ _).keep3 y _ _ _,((X.out.keep3 g _ _ _).keep3 x _ _ _).keep3 y _ _ _,((Y.out.keep3 g _ _ _).keep3 x _ _ _).keep3 y _ _ _,
  yB (yB (yB (yB (yB (yB (yB (yB (yB hB oM 0 _) oM 1 _) oM 2 _) oM 0 _) oM 1 _) oM 2 _) oM 0 _) oM 1 _) oM 2 _⟩
theorem zFP(v:Value)(w:World)(l:C<=3)(m:e<=30000000)(h:MX C e L w v):
  CPq 36 #[v] w fun e w'=>∃v,e= .returned v/\BX C L w' v/\BWq w w':=by
 obtain⟨R,M,i,b,r1,a,j⟩:=h;refine(zPS (M0:=2^e) (zE8 e) v M R C w i.off b oM oM a (zI (zE6 (zE8 e) (zX5 oM)) (zZd (zEa e) dE (by rw[zC3];omega)))).mono ?_;rintro k w' ⟨v,r,c,H,U,V,rfl,f,g,d⟩;exact⟨v,rfl,⟨r,H,f.lat.hb.of j,g⟩,d⟩
theorem zRD(a b c:Value)(W:World):(Instr.field 32 (.agg #[a,b,c]) 0).run Tryz.prog W= .ok a W:=by kernel_rfl
theorem zH0(v:Value)(w:World)(j:C<=3)(l:e<=30000000)(h:MX C e L w v):
  CPq 43 #[v] w fun e w'=>∃m:Nat,e= .returned (niq m)/\(∃G,HB C m G L)/\BWq w w':=by
 obtain⟨q,z,y,x,rfl⟩:=h.agg;have H:=xgv h;clear h;go_enter Tryz.func43,Tryz.ntmps43;go_upto_region 1 with(fail)
 refine zF ?_;intro g b;obtain⟨a,i,u⟩:=qJ b;have r:=i.three;clear b;go_wp2_with fail
 refine(zFP _ g j l (H.out.I a)).mono ?_;rintro s A ⟨v,rfl,⟨m,G,c,d⟩,k⟩;obtain⟨n,o,p,rfl⟩:=d.agg;have f:=xgv c;clear c d;have t:=fun W=>zRD (niq (m:Nat)) (niq C) (.slice n o p) W
 go_wp2;go_ret;exact⟨m,rfl,⟨G,f.out⟩,nx a k⟩
theorem zMl(a b:Int)(q r:Option Addr)(o m p n:Nat)(xs ys:List Int)(w:World)(h1:zBy w (.slice q o m) xs)(h2:zBy w (.slice r p n) ys)(k:decide (a=b/\xs=ys)=ans):
  CPq 30 #[.agg #[niq a,.slice q o m],.agg #[niq b,.slice r p n]] w fun e w'=>∃v,e= .returned v/\v= .bool ans/\BWq w w':=by
 have s:=xgv h1;have t:=xgv h2;have h:=xgv k;obtain⟨f,l⟩:∃f,decide (xs=ys)=f:=⟨_,rfl⟩;have i:=xgv l;clear h1 h2 k l;go_enter Tryz.func30,Tryz.ntmps30;go_upto_region 1 with(fail)
 refine zF ?_;intro x j;obtain⟨c,y,z,F⟩:=zAU j;have B:=y.two;have C:=z.two;clear j;by_cases g:a=b
 .subst g
  have d:jI (f=ans):=⟨by rw[<-h.out,<-i.out];simp⟩;go_wp2_with fail
  refine(zPW _ _ xs ys x (s.out.I c) (t.out.I c)).mono ?_;rintro D G ⟨rfl,A⟩;rw[i.out,d.out];go_wp2;go_ret;exact⟨_,rfl,rfl,nx c A⟩
 have d:jI (ans=false):=⟨by rw[<-h.out];simp[g]⟩;have E:((a:Int)==b)=false:=beq_eq_false_iff_ne.2 g;have u:=d.out;subst u;go_wp2;go_ret;exact⟨_,rfl,rfl,c⟩
theorem zVi{Q:Nat->Nat->Int}(h:Ech C m c P)(f:Ech C m c' Q)(e:∀a,a<m->∀b,b<C->Q a b=P a b):∀k,k<m->c k=c' k:=fun k d=>by
 have l:=h.pos k d;have n:=f.pos k d;have i:=h.lt k d;have j:=f.lt k d;rcases yS (c k) (c' k)with g|g|g
 .have:=f.zero k d (c k) g
  rw[e k d _ i]at this;omega
 exact g;have:=h.zero k d (c' k) g;rw[<-e k d _ j]at this;omega
theorem zXm{Q:Nat->Nat->Int}(h:Ech C m c P)(f:Ech C m c' Q)(e:∀a,a<m->∀b,b<C->Q a b=P a b):zMw m c P=zMw m c' Q:=zKI fun i d=>by
 rw[<-zVi h f e i d,e i d _ (h.lt i d)]
theorem zHT.val{Q:Nat->Nat->Int}(h:zHT C L1 L2 z)(h1:HB C m P L1)(h2:HB C m Q L2)(a:Ech C m c P)(b:Ech C m c' Q):z*zMw m c P=zMw m c' Q:=by
 obtain⟨k,d,o,U,V,e,f,g,i,j⟩:=h;obtain⟨rfl,l⟩:=e.eq h1 fun x=>yF
 obtain⟨-,n⟩:=f.eq h2 fun x=>yF
 rw[<-zXm g a l,<-zXm i b n];exact j
theorem zSX.uniq{b':Int}{j:List Int}(h:zSX C L1 L2 b ts)(w:zSX C L1 L2 b' j):b=b'/\ts=j:=by
 obtain⟨m,k,r,P,Q,K,F,a1,l,n,o,rfl,rfl⟩:=h;obtain⟨M,L,N,I,J,i,H,p,q,u,v,rfl,rfl⟩:=w;obtain⟨rfl,E⟩:=a1.eq p fun x=>yF
 obtain⟨rfl,G⟩:=l.eq q fun x=>yF
 obtain⟨c,B⟩:=a1.hnf;have e:∀a,a<k->∀b,b<m->i a b=K a b:=fun a d b g=>(B.ech.uniq (y:=i a) (z:=K a) (fun t f=>by
  rw[<-n a d t f,<-G a d t f,u a d t f];exact zL fun s D=>by rw[E s D t f]) b g)
 have A:=(o.list_eq (v.congr fun a d b g=>(e a d b g).symm) (Fac.refl _ _ _) (Fac.refl _ _ _));exact⟨rfl,by unfold zOF;rw[A]⟩
theorem zZs(h:zAQ w v R C M)(hF:zBW R C M)(b:R<=3)(a:leM (2^e) R C (ent M)):MX C e (yD R C (ent M)) w v:=⟨R,M,h,hF,b,a,fun _=>yF⟩
theorem zFF(c:Nat->Nat)(h:Hnf C m m c G):HB C m G (yD m C G):=⟨⟨c,h⟩,fun _=>yF⟩
theorem zFf(h1:∀k,k<m->c k<C/\0<G k (c k)/\∀t,t<c k->G k t=0)(h2:∀k,k<m->∀l,l<m->k<l->c k<c l/\0<=G k (c l)/\G k (c l)<G l (c l)):Hnf C m m c G:=
 ⟨xgf _,⟨fun k b=>(h1 k b).1,fun k b=>(h1 k b).2.1,fun k b t h=>(h1 k b).2.2 t h,fun k l f g=>(h2 k oM l g f).1⟩,fun i j d e _=>(h2 i oM j e d).2,fun a h1 h2=>oM⟩
theorem zGy:yD 1 1 (ent [[a]]) x↔a∣x 0:=by
 constructor
 .rintro⟨y,h⟩
  have:=h 0 dE;rw[qS,qS,show ent [[a]] 0 0=a from rfl,zAy]at this;exact⟨y 0,by rw[this,zZ]⟩
 rintro⟨k,h⟩;refine⟨fun _=>k,fun b c=>?_⟩;obtain rfl:b=0:=oM;rw[qS,qS,show ent [[a]] 0 0=a from rfl,zAy,h,zZ]
theorem zZc(x:Nat->Int):zCB 1 (yD 1 1 (ent [[4]])) (yD 1 1 (ent [[6]])) x↔yD 1 1 (ent [[2]]) x:=by
 rw[zGy];constructor
 .rintro⟨u,v,a,c,d⟩
  have:=d 0 dE;rw[zGy]at a c;omega
 intro h;obtain⟨k,e⟩:=h;exact⟨fun _=>4*(-k),fun _=>6*k,zGy.2 ⟨-k,rfl⟩,zGy.2 ⟨k,rfl⟩,fun b f=>by
  obtain rfl:b=0:=oM;show x 0=4*-k+6*k;rw[e];omega⟩
theorem zZb(x:Nat->Int):zDI (yD 1 1 (ent [[4]])) (yD 1 1 (ent [[6]])) x↔yD 1 1 (ent [[12]]) x:=by
 unfold zDI;rw[zGy,zGy,zGy];omega
theorem zXh{c:Int}:yD 1 2 (ent [[a,c]]) x↔∃k,x 0=k*a/\x 1=k*c:=by
 constructor
 .rintro⟨y,h⟩
  refine⟨y 0,?_,?_⟩
  .have:=h 0 dE
   rw[qS,qS,show ent [[a,c]] 0 0=a from rfl,zAy]at this;exact this
  have:=h 1 dE;rw[qS,qS,show ent [[a,c]] 0 1=c from rfl,zAy]at this;exact this
 rintro⟨k,d,e⟩;refine⟨fun _=>k,fun b f=>?_⟩;rcases(by omega:b=0∨b=1)with rfl|rfl
 rw[qS,qS,show ent [[a,c]] 0 0=a from rfl,zAy,d];rw[qS,qS,show ent [[a,c]] 0 1=c from rfl,zAy,e]
theorem zUr{c d:Int}:yD 2 2 (ent [[a,b],[c,d]]) x↔∃k l,x 0=k*a+l*c/\x 1=k*b+l*d:=by
 constructor
 .rintro⟨y,h⟩
  refine⟨y 0,y 1,?_,?_⟩
  .have:=h 0 dE
   rw[qS,qS,qS,show ent [[a,b],[c,d]] 0 0=a from rfl,show ent [[a,b],[c,d]] 1 0=c from rfl,zAy]at this;exact this
  have:=h 1 dE;rw[qS,qS,qS,show ent [[a,b],[c,d]] 0 1=b from rfl,show ent [[a,b],[c,d]] 1 1=d from rfl,zAy]at this;exact this
 rintro⟨k,l,e,f⟩;refine⟨fun t=>if t=0 then k else l,fun j g=>?_⟩;rcases(by omega:j=0∨j=1)with rfl|rfl
 .rw[qS,qS,qS,show ent [[a,b],[c,d]] 0 0=a from rfl,show ent [[a,b],[c,d]] 1 0=c from rfl,zAy,e]
  rfl
 rw[qS,qS,qS,show ent [[a,b],[c,d]] 0 1=b from rfl,show ent [[a,b],[c,d]] 1 1=d from rfl,zAy,f];rfl
theorem zWf:yD 0 C A x↔∀b,b<C->x b=0:=⟨fun⟨_,h⟩=>h,fun h=>⟨fun _=>0,h⟩⟩
theorem zYD(x:Nat->Int):zDI (yD 1 2 (ent [[1,1]])) (yD 1 2 (ent [[1,-1]])) x↔yD 0 2 (ent []) x:=by
 unfold zDI;rw[zXh,zXh,zWf];constructor
 .rintro⟨⟨k,a,d⟩,l,e,f⟩ b g
  rcases(by omega:b=0∨b=1)with rfl|rfl<;>omega
 intro h;have c:=h 0 dE;have a:=h 1 dE;exact⟨⟨0,oM,oM⟩,0,oM,oM⟩
theorem zVm(x:Nat->Int):yD 2 1 (ent [[4],[6]]) x↔yD 1 1 (ent [[2]]) x:=by
 rw[zGy];constructor
 .rintro⟨y,h⟩
  have:=h 0 dE;rw[qS,qS,qS,show ent [[4],[6]] 0 0=4 from rfl,show ent [[4],[6]] 1 0=6 from rfl]at this;omega
 rintro⟨k,a⟩;refine⟨fun t=>if t=0 then-k else k,fun b c=>?_⟩;obtain rfl:b=0:=oM;rw[qS,qS,qS,show ent [[4],[6]] 0 0=4 from rfl,show ent [[4],[6]] 1 0=6 from rfl,a];simp only[if_pos,reduceIte];omega
abbrev zPB:List (List Int):=[[2,0],[0,3]]
abbrev zMv:List (List Int):=[[1,0],[0,1]]
theorem zMG:Hnf 2 2 2 (fun k=>k) (ent zPB):=zFf dE dE
theorem zII:Hnf 2 2 2 (fun k=>k) (ent zMv):=zFf dE dE
theorem zYI:Hnf 1 1 1 (fun k=>k) (ent [[2]]):=zFf dE dE
theorem zRJ:Hnf 1 1 1 (fun k=>k) (ent [[12]]):=zFf dE dE
theorem zZg:Hnf 2 1 1 (fun k=>k) (ent [[4,6]]):=zFf dE dE
theorem zZf:Hnf 2 1 1 (fun k=>k) (ent [[2,0]]):=zFf dE dE
theorem zVw:Hnf 2 0 0 (fun k=>k) (ent []):=zFf dE dE
theorem zKg(x:Nat->Int):yD 2 2 (ent zMv) x:=zUr.2 ⟨x 0,x 1,oM,oM⟩
theorem zVn(h:zHT 2 (yD 2 2 (ent zMv)) (yD 2 2 (ent zPB)) z):z=6:=by
 have:=h.val (zFF _ zII) (zFF _ zMG) zII.ech zMG.ech;rw[show zMw 2 (fun k=>k) (ent zMv)=1 from by decide,show zMw 2 (fun k=>k) (ent zPB)=6 from by decide]at this;omega
theorem zYC:zSX 2 (yD 2 2 (ent zMv)) (yD 2 2 (ent zPB)) 0 [6]:=
 ⟨2,2,2,ent zMv,ent zPB,ent zPB,ent [[1,0],[0,6]],zFF _ zII,zFF _ zMG,by decide,⟨⟨by unfold zGi;decide,by decide,fun i c d=>oM,by decide⟩,fun a b c d e=>by
  obtain⟨rfl,rfl⟩:a=0/\b=1:=oM;decide,⟨ent [[-1,1],[-3,2]],ent [[1,-3],[1,-2]],by decide⟩,⟨ent [[2,-1],[3,-1]],ent [[-2,3],[-1,1]],by decide⟩⟩,by decide,by decide⟩
theorem zVo:zSX 2 (yD 2 2 (ent zMv)) (yD 1 2 (ent [[4,6]])) 1 [2]:=
 ⟨2,1,1,ent zMv,ent [[4,6]],ent [[4,6]],ent [[2,0]],zFF _ zII,zFF _ zZg,by decide,⟨⟨by unfold zGi;decide,by decide,fun i c d=>oM,by decide⟩,fun a b c d e=>oM,⟨ent [[1]],ent [[-1,-3],[1,2]],by decide⟩,⟨ent [[1]],ent [[2,3],[-1,-1]],by decide⟩⟩,by decide,by decide⟩
theorem zMR(l m:Value)(M:List (List Int))(xs:List Int)(w:World)(h1:zAQ w l R C M)(g:zBW R C M)(h2:zBy w m xs)(c:xs.length≠C):
  CPq 35 #[l,m] w fun e w'=>∃v,e= .returned v/\v= .bool false/\BWq w w':=by
 have p:=xgv h1;obtain⟨u,rfl,h1⟩:=h1;obtain⟨F,o,E,rfl,n,B,D,-⟩:=id h2;rw[n]at c;have x:((o:Int)==(C:Int))=false:=beq_eq_false_iff_ne.2 fun h=>c oM
 have y:¬ ((o:Int)=(C:Int)):=fun h=>c oM
 have q:=xgv h2;have r:=xgv g;clear h1 g h2 n;go_enter Tryz.func35,Tryz.ntmps35;go_upto_region 1 with(fail)
 refine zF ?_;intro s i;obtain⟨f,a,z⟩:=qJ i;have d:=a.three;clear i;go_wp2_with fail
 refine(zMZ _ R C M s (p.out.I f) r.out).mono ?_;rintro e t ⟨v,rfl,rfl,j⟩;have b:=nx f j;have a:=a.I j;clear d;go_wp2_with fail
 refine(zIx _ _ t (q.out.I b)).mono ?_;rintro e A ⟨rfl,k⟩;have b:=nx b k;have a:=a.I k;have d:=a.three;go_wp2;go_ret;exact⟨_,rfl,rfl,b⟩
theorem zSv(h:BX C (yD m C (ent M)) w v)(hF:zBW m C M)(f:Hnf C m m c (ent M)):zAQ w v m C M:=by
 obtain⟨k,G,d,e⟩:=h;obtain⟨b,a⟩:=d.mat (zFF c f) fun x=>yF
 rw[<-zGB hF]at a;subst b;rw[<-a];exact e
theorem mxL(h:zAQ w v R C M)(hF:zBW R C M)(a:R<=3)(b:zV9 17 M=true):MX C 4 (yD R C (ent M)) w v:=zZs h hF a (zTl b hF)
theorem bdL(hF:zBW R C M)(c:C<=4)(g:zV9 17 M=true):Bd C 33 (yD R C (ent M)):=(zOY (e:=4) c (fun a d b f=>zD (zTl (M0:=16) g hF a d b f) dE)).mono dE
theorem zAA(h:(decide (M.length=R) && M.all fun r=>decide (r.length=C))=true):zBW R C M:=by
 simp only[Bool.and_eq_true,decide_eq_true_eq,List.all_eq_true]at h;exact⟨h.1,h.2⟩
theorem qAr(a b:Value)(w:World)(h1:zAQ w a (1:Nat) (1:Nat) [[4]])(h2:zAQ w b (1:Nat) (1:Nat) [[6]]):
  CPq 16 #[a,b] w fun e w'=>∃v,e= .returned (.tuple #[v,niq 0])/\zAQ w' v (1:Nat) (1:Nat) [[2]]/\BWq w w':=
 (qBD a b w dE dE (mxL h1 (zAA dE) dE dE) (mxL h2 (zAA dE) dE dE)).mono fun e w' ⟨v,d,f,c⟩=>⟨v,d,zSv (f.of zZc) (zAA dE) zYI,c⟩
theorem qAc(a b:Value)(w:World)(h1:zAQ w a (1:Nat) (1:Nat) [[4]])(h2:zAQ w b (1:Nat) (1:Nat) [[6]]):
  CPq 18 #[a,b] w fun e w'=>∃v,e= .returned (.tuple #[v,niq 0])/\zAQ w' v (1:Nat) (1:Nat) [[12]]/\BWq w w':=
 (zTa (e:=33) a b w dE dE ((mxL h1 (zAA dE) dE dE).mono dE) ((mxL h2 (zAA dE) dE dE).mono dE) (bdL (zAA dE) dE dE) (bdL (zAA dE) dE dE)).mono fun e w' ⟨v,d,f,c⟩=>⟨v,d,zSv (f.of zZb) (zAA dE) zRJ,c⟩
theorem qAb(a b:Value)(w:World)(h1:zAQ w a (1:Nat) (2:Nat) [[1,1]])(h2:zAQ w b (1:Nat) (2:Nat) [[1,-1]]):
  CPq 18 #[a,b] w fun e w'=>∃v,e= .returned (.tuple #[v,niq 0])/\zAQ w' v (0:Nat) (2:Nat) []/\BWq w w':=
 (zTa (e:=33) a b w dE dE ((mxL h1 (zAA dE) dE dE).mono dE) ((mxL h2 (zAA dE) dE dE).mono dE) (bdL (zAA dE) dE dE) (bdL (zAA dE) dE dE)).mono fun e w' ⟨v,d,f,c⟩=>⟨v,d,zSv (f.of zYD) (zAA dE) zVw,c⟩
theorem zYO(a b:Value)(w:World)(h1:zAQ w a (2:Nat) (2:Nat) zMv)(h2:zAQ w b (2:Nat) (2:Nat) zPB):
  CPq 20 #[a,b] w fun e w'=>∃v,e= .returned (.tuple #[v,niq 0])/\jE w' v 6/\BWq w w':=by
 refine(zHf (e:=33) (f:=33) (a1:=true) (a2:=true) a b w dE dE ((mxL h1 (zAA dE) dE dE).mono dE) ((mxL h2 (zAA dE) dE dE).mono dE) (bdL (zAA dE) dE dE) (bdL (zAA dE) dE dE) dE dE ⟨fun _ x _=>zKg x,fun _=>rfl⟩ fun m k P U d g=>⟨fun _=>?_,fun _=>rfl⟩).mono ?_
 .obtain⟨n,-⟩:=d.eq (zFF _ zII) fun x=>yF
  obtain⟨o,-⟩:=g.eq (zFF _ zMG) fun x=>yF
  omega
 rintro e w' ⟨v,k,rfl,l,i⟩;rcases l with⟨h,-⟩|⟨-,h,-⟩|⟨-,-,rfl,z,c,j⟩
 cases h;cases h;rw[zVn j]at c;exact⟨v,rfl,c,i⟩
theorem zYN(b c:Value)(w:World)(h1:zAQ w b (1:Nat) (1:Nat) [[2]])(h2:zAQ w c (1:Nat) (1:Nat) [[3]]):
  CPq 20 #[b,c] w fun e w'=>∃v,e= .returned v/\v= .tuple #[.agg #[.bool false,.slice none 0 0],niq 160]/\BWq w w':=by
 refine(zHf (e:=33) (f:=33) (a1:=false) (a2:=true) b c w dE dE ((mxL h1 (zAA dE) dE dE).mono dE) ((mxL h2 (zAA dE) dE dE).mono dE) (bdL (zAA dE) dE dE) (bdL (zAA dE) dE dE) dE dE ⟨nofun,fun h=>?_⟩ fun m k P U d g=>⟨fun _=>?_,fun _=>rfl⟩).mono ?_
 .have:=(zGy (a:=2)).1 (h (fun _=>3) (zGy.2 (zAh 3)))
  omega
 .obtain⟨l,-⟩:=d.eq (zFF (fun k=>k) (zFf dE dE:Hnf 1 1 1 (fun k=>k) (ent [[2]]))) fun x=>yF
  obtain⟨n,-⟩:=g.eq (zFF (fun k=>k) (zFf dE dE:Hnf 1 1 1 (fun k=>k) (ent [[3]]))) fun x=>yF
  omega
 rintro e w' ⟨v,k,rfl,j,i⟩;rcases j with⟨-,rfl,rfl⟩|⟨h,-,-⟩|⟨h,-⟩
 exact⟨_,rfl,rfl,i⟩;cases h;cases h
theorem zVy(a b:Value)(w:World)(h1:zAQ w a (2:Nat) (2:Nat) zMv)(h2:zAQ w b (1:Nat) (2:Nat) [[2,0]]):
  CPq 20 #[a,b] w fun e w'=>∃v,e= .returned v/\v= .tuple #[.agg #[.bool false,.slice none 0 0],niq 170]/\BWq w w':=by
 refine(zHf (e:=33) (f:=33) (a1:=true) (a2:=false) a b w dE dE ((mxL h1 (zAA dE) dE dE).mono dE) ((mxL h2 (zAA dE) dE dE).mono dE) (bdL (zAA dE) dE dE) (bdL (zAA dE) dE dE) dE dE ⟨fun _ x _=>zKg x,fun _=>rfl⟩ fun m k P U c d=>⟨nofun,fun h=>?_⟩).mono ?_
 .obtain⟨j,-⟩:=c.eq (zFF _ zII) fun x=>yF
  obtain⟨l,-⟩:=d.eq (zFF _ zZf) fun x=>yF
  omega
 rintro e w' ⟨v,k,rfl,i,g⟩;rcases i with⟨h,-⟩|⟨-,-,rfl,rfl⟩|⟨-,h,-⟩
 cases h;exact⟨_,rfl,rfl,g⟩;cases h
def GV(b:Int)(ts:List Int)(w:World)(v:Value):Prop:=∃o n c,v= .agg #[niq b,.slice o n c]/\zBy w (.slice o n c) ts
def GT(b:Int)(ts:List Int)(w:World)(v:Value):Prop:=∃u,v= .tuple #[u,niq 0]/\GV b ts w u
theorem zHh(b:Int)(ts:List Int):zAj (GV b ts):=fun _ _ _ e ⟨o,n,c,a,d⟩=>⟨o,n,c,a,d.I e⟩
theorem zTh(b:Int)(ts:List Int):zAj (GT b ts):=fun _ _ _ e ⟨u,a,c⟩=>⟨u,a,zHh _ _ _ _ _ e c⟩
theorem zQZ(a d:Value)(w:World)(h1:zAQ w a (2:Nat) (2:Nat) zMv)(h2:zAQ w d (Q:Nat) (2:Nat) M)(hF:zBW Q 2 M)(i:Q<=3)(g:zV9 17 M=true)(m:zSX 2 (yD 2 2 (ent zMv)) (yD Q 2 (ent M)) b ts):
  CPq 22 #[a,d] w fun e w'=>∃v,e= .returned v/\GT b ts w' v/\BWq w w':=by
 refine(zZ3 (e:=33) (f:=33) (a1:=true) a d w dE dE ((mxL h1 (zAA dE) dE dE).mono dE) ((mxL h2 hF i g).mono dE) (bdL (zAA dE) dE dE) (bdL hF dE g) dE dE ⟨fun _ x _=>zKg x,fun _=>rfl⟩).mono ?_;rintro e w' ⟨v,k,rfl,p,j⟩;rcases p with⟨h,-⟩|⟨-,rfl,r,s,o,n,c,rfl,q,l⟩
 cases h;obtain⟨rfl,rfl⟩:=l.uniq m;exact⟨_,rfl,⟨_,rfl,_,_,_,rfl,q⟩,j⟩
theorem zLk(a c:Value)(w:World)(h1:GV b ts w a)(h2:GV b ts w c):
  CPq 30 #[a,c] w fun e w'=>∃v,e= .returned v/\v= .bool true/\BWq w w':=by
 obtain⟨k,i,g,rfl,d⟩:=h1;obtain⟨l,j,h,rfl,f⟩:=h2;exact zMl b b k l i g j h ts ts w d f (zQ ⟨rfl,rfl⟩)
theorem zBy.one_new(w:World){s:Bool}{a:Option Addr}{l c:Nat}(h:jE w (.agg #[.bool s,.slice a l c]) z):zBy (w.alloc (.cells #[.bool s,.slice a l c] 43)) (slq w.heap.size 1 1) [z]:=by
 have d:BWq w (w.alloc (.cells #[.bool s,.slice a l c] 43)):=(zC _ _).alloc (xgf _) _;refine⟨_,1,1,rfl,rfl,xgf _,oM,fun _=>⟨_,rfl,_,yG _ _ _,fun k y b=>?_⟩⟩;match k,b with
 |0,b=>
  simp at b;subst b;exact⟨_,_,_,_,rfl,rfl,h.ext (lx d)⟩
theorem zVq(a b:Int):yV 2 (fun j=>if j=0 then a else b)= [a,b]:=rfl
theorem zP3(a b:Int)(ans:Bool)(c d:Value)(w:World)(h1:zAQ w c (2:Nat) (2:Nat) zPB)(h2:zBy w d [a,b])(g:a.natAbs<=16)(h:b.natAbs<=16)(f:ans=true↔yD 2 2 (ent zPB) fun j=>if j=0 then a else b):
  CPq 35 #[c,d] w fun e w'=>∃v,e= .returned v/\v= .bool ans/\BWq w w':=
 zS2 (e:=33) c d (fun j=>if j=0 then a else b) w dE dE ((mxL h1 (zAA dE) dE dE).mono dE) (by rw[zVq];exact h2) (bdL (zAA dE) dE dE) (fun j _=>by
  split<;>omega) f
theorem zYr(a b:Value)(w:World)(h1:zAQ w a (2:Nat) (2:Nat) zPB)(h2:zAQ w b (2:Nat) (2:Nat) zMv):
  CPq 25 #[a,b] w fun e w'=>∃v,e= .returned v/\v= .bool true/\BWq w w':=
 zET (e:=33) a b w dE dE ((mxL h1 (zAA dE) dE dE).mono dE) ((mxL h2 (zAA dE) dE dE).mono dE) (bdL (zAA dE) dE dE) ⟨fun _ x _=>zKg x,fun _=>rfl⟩
theorem zT1:¬ yD 2 2 (ent zPB) fun j=>if j=0 then 1 else 0:=fun h=>by
 obtain⟨k,l,a,b⟩:=zUr.1 h;rw[zB rfl]at a;omega
theorem zY0:yD 2 2 (ent zPB) fun j=>if j=0 then 4 else-3:=zUr.2 ⟨2,-1,by decide,by decide⟩
theorem zYs(a b:Value)(w:World)(h1:zAQ w a (2:Nat) (2:Nat) zMv)(h2:zAQ w b (2:Nat) (2:Nat) zPB):
  CPq 25 #[a,b] w fun e w'=>∃v,e= .returned v/\v= .bool false/\BWq w w':=
 zET (e:=33) a b w dE dE ((mxL h1 (zAA dE) dE dE).mono dE) ((mxL h2 (zAA dE) dE dE).mono dE) (bdL (zAA dE) dE dE) ⟨nofun,fun h=>absurd (h _ (zKg _)) zT1⟩
theorem zX8(a b:Value)(w:World)(h1:zAQ w a (2:Nat) (1:Nat) [[4],[6]])(h2:zAQ w b (1:Nat) (1:Nat) [[2]]):
  CPq 27 #[a,b] w fun e w'=>∃v,e= .returned v/\v= .bool true/\BWq w w':=
 zK8 (e:=4) a b w dE dE (mxL h1 (zAA dE) dE dE) (mxL h2 (zAA dE) dE dE) ⟨fun _=>zVm,fun _=>rfl⟩
theorem zUy(a b:Value)(w:World)(h1:zAQ w a (1:Nat) (1:Nat) [[4]])(h2:zAQ w b (2:Nat) (2:Nat) zMv):
  CPq 16 #[a,b] w fun e w'=>∃v,e= .returned v/\v= .tuple #[.agg #[niq 0,niq 0,.slice none 0 0],niq 50]/\BWq w w':=
 (zWH a b 1 2 1 2 [[4]] zMv w h1 h2 (zAA dE) (zAA dE) dE).mono fun e w' ⟨v,h1,h2,c⟩=>⟨_,h1,by rw[h2],c⟩
theorem qAs(w:World):CPq 49 #[niq 2] w fun e w'=>∃v,e= .returned v/\zAQ w' v (2:Nat) (2:Nat) zMv/\BWq w w':=
 (zGx 2 w dE).mono fun e w' ⟨v,d,b,c,a⟩=>⟨v,b,by
  have h:=c.mat.1
  rwa[show genM 2 2 idf=zMv from by decide]at h,a⟩
structure Bu(P:World->Prop)(w:World):Prop where
 h:P w
 k:∀w w',BWq w w'->P w->P w'
theorem Bu.nx{P:World->Prop}(a:Bu P w)(b:BWq w w'):Bu P w':=⟨a.k _ _ b a.h,a.k⟩
theorem Bu.add{P Q:World->Prop}(a:Bu P w)(q:Q w)(k:∀w w',BWq w w'->Q w->Q w'):Bu (fun w=>P w/\Q w) w:=⟨⟨a.h,q⟩,fun _ _ b h=>⟨a.k _ _ b h.1,k _ _ b h.2⟩⟩
theorem zLP(n0 m:Nat)(s:List Int)(r:2≠t):zD0 n0 t m (fun w v=>zHS w v s):=fun _ _ _ _ _ _ p _ _ ⟨a,n,c,h,i,j,k,l,o⟩=>⟨a,n,c,h,i,j,k,l,fun q=>by
 obtain⟨b,d,e,f,g⟩:=o q;exact⟨b,d,e,Blk.wrT f p r,g⟩⟩
theorem zJ8(n0:Nat){R C:Int}(b:∀r∈M,2<2*r.length)(e:46≠t)(f:t≠tU):zD0 n0 t 2 (fun w v=>zAQ w v R C M):=fun _ _ _ _ _ _ a d _ h=>
 h.wrG a (fun _ i g c=>c.wrM a (by rw[d];exact b i g) f) e
theorem zTi(n0 m:Nat)(b:Int)(ts:List Int)(g:tI≠t)(h:t≠tU):zD0 n0 t m (GT b ts):=fun _ _ _ _ _ _ f _ _ ⟨u,a,o,n,c,d,e⟩=>⟨u,a,o,n,c,d,e.wrT f g h⟩
theorem GV.I(h:GV b ts w v)(e:BWq w w'):GV b ts w' v:=zHh b ts _ _ _ e h
theorem zYk(a b:Value)(z:Int)(w:World)(h1:jE w a z)(h2:jE w b z):
  CPq 29 #[a,b] w fun e w'=>∃v,e= .returned v/\v= .bool true/\BWq w w':=
 (zIS a b z z w h1 h2).mono fun e w' ⟨h,c⟩=>⟨_,h,by rw[zQ rfl],c⟩
theorem zE2(w:World):CPq 12 #[] w fun e w'=>e= .returned (.bool true)/\BWq w w':=by
 go_enter Tryz.func12,Tryz.ntmps12;have c:=zC w.heap.size w;go_wp2_with fail
 refine(zI3 _ [4] 1 1 _ _ [[4]] _ (zHS.new _ [4] dE dE) (by rfl) (by rfl) (by rfl) oM oM (by rfl)).mono ?_;rintro e o ⟨l,rfl,i,f⟩;have f:=nxd f;have c:=nx c f;obtain⟨m8,m7,m6,rfl⟩:=i.agg;have F:=Bu.mk i (fun _ _ b h=>zAQ.I h b);clear i;go_wp2_with fail
 refine(zI3 _ [6] 1 1 _ _ [[6]] _ (zHS.new _ [6] dE dE) (by rfl) (by rfl) (by rfl) oM oM (by rfl)).mono ?_;rintro e wb ⟨l,rfl,i,f⟩;have f:=nxd f;have c:=nx c f;have F:=F.nx f;obtain⟨n1,n0,m9,rfl⟩:=i.agg;have F:=F.add i (fun _ _ b h=>zAQ.I h b);clear i;go_wp2_with fail
 refine(qAs wb).mono ?_;rintro e wc ⟨l,rfl,i,f⟩;have c:=nx c f;have F:=F.nx f;obtain⟨n5,n4,n3,rfl⟩:=i.agg;have F:=F.add i (fun _ _ b h=>zAQ.I h b);clear i;go_upto_region 2 with(fail)
 refine zF ?_;intro W2 e2;obtain⟨c0,b1,b2,b3,k4⟩:=zBc e2;have c:=nx c c0;have F:=F.nx c0;clear e2;have F:=F.add b1 (fun _ _ b h=>Blk.I h b);clear b1;have F:=F.add b2 (fun _ _ b h=>Blk.I h b);clear b2;have F:=F.add b3 (fun _ _ b h=>Blk.I h b);clear b3;go_wp2_with fail
 refine(zI3 _ [2,0,0,3] 2 2 _ _ zPB _ (zHS.new _ [2,0,0,3] dE dE) (by rfl) (by rfl) (by rfl) oM oM (by rfl)).mono ?_;rintro e wd ⟨l,rfl,i,f⟩;have f:=nxd f;have c:=nx c f;have F:=F.nx f;obtain⟨n8,n7,n6,rfl⟩:=i.agg;have F:=F.add i (fun _ _ b h=>zAQ.I h b);clear i;go_upto_region 3 with(fail)
 refine zF ?_;intro W3 e3;obtain⟨c7,b4,k5⟩:=qJ e3;have c:=nx c c7;have F:=F.nx c7;clear e3;have F:=F.add b4 (fun _ _ b h=>Blk.I h b);clear b4;have n:=F.h.1.1.1.1.2.three;have q:=F.h.1.1.1.2.three;go_wp2_with fail
 refine(qAr _ _ W3 F.h.1.1.1.1.1.1.1 F.h.1.1.1.1.1.1.2).mono ?_;rintro e we ⟨l,rfl,i,f⟩;have c:=nx c f;have F:=F.nx f;clear n q;obtain⟨o1,o0,n9,rfl⟩:=i.agg;have F:=F.add i (fun _ _ b h=>zAQ.I h b);clear i;go_upto_region 4 with(fail)
 refine zF ?_;intro W4 e4;obtain⟨c8,b5,k6⟩:=qJ e4;have c:=nx c c8;have F:=F.nx c8;clear e4;have F:=F.add b5 (fun _ _ b h=>Blk.I h b);clear b5;have n:=F.h.1.1.1.1.1.1.2.three;have q:=F.h.1.1.1.1.1.2.three;go_wp2_with fail
 refine(qAc _ _ W4 F.h.1.1.1.1.1.1.1.1.1 F.h.1.1.1.1.1.1.1.1.2).mono ?_;rintro e wf ⟨l,rfl,i,f⟩;have c:=nx c f;have F:=F.nx f;clear n q;obtain⟨o5,o4,o3,rfl⟩:=i.agg;have F:=F.add i (fun _ _ b h=>zAQ.I h b);clear i;go_upto_region 5 with(fail)
 refine zF ?_;intro W5 e5;obtain⟨c9,b7,k7⟩:=qJ e5;have c:=nx c c9;have F:=F.nx c9;clear e5;have F:=F.add b7 (fun _ _ b h=>Blk.I h b);clear b7;go_wp2_with fail
 refine(zI3 _ [1,1] 1 2 _ _ [[1,1]] _ (zHS.new _ [1,1] dE dE) (by rfl) (by rfl) (by rfl) oM oM (by rfl)).mono ?_;rintro e wg ⟨l,rfl,i,f⟩;have f:=nxd f;have c:=nx c f;have F:=F.nx f;obtain⟨o8,o7,o6,rfl⟩:=i.agg;have F:=F.add i (fun _ _ b h=>zAQ.I h b);clear i;go_wp2_with fail
 refine(zI3 _ [1,-1] 1 2 _ _ [[1,-1]] _ (zHS.new _ [1,-1] dE dE) (by rfl) (by rfl) (by rfl) oM oM (by rfl)).mono ?_;rintro e wh ⟨l,rfl,i,f⟩;have f:=nxd f;have c:=nx c f;have F:=F.nx f;obtain⟨p2,p0,o9,rfl⟩:=i.agg;have F:=F.add i (fun _ _ b h=>zAQ.I h b);clear i;go_wp2_with fail
 refine(qAb _ _ wh F.h.1.2 F.h.2).mono ?_;rintro e wi ⟨l,rfl,i,f⟩;have c:=nx c f;have F:=F.nx f;obtain⟨p5,p4,p3,rfl⟩:=i.agg;have F:=F.add i (fun _ _ b h=>zAQ.I h b);clear i;go_upto_region 6 with(fail)
 refine zF ?_;intro W6 e6;obtain⟨d0,b9,k9⟩:=qJ e6;have c:=nx c d0;have F:=F.nx d0;clear e6;have F:=F.add b9 (fun _ _ b h=>Blk.I h b);clear b9;have n:=F.h.1.1.1.1.1.1.1.1.1.1.2.three;have q:=F.h.1.1.1.1.1.1.1.1.2.three;go_wp2_with fail
 refine(zYO _ _ W6 F.h.1.1.1.1.1.1.1.1.1.1.1.1.1.2 F.h.1.1.1.1.1.1.1.1.1.2).mono ?_;rintro e wj ⟨l,rfl,X,f⟩;have c:=nx c f;have F:=F.nx f;clear n q;obtain⟨is,ia,il,ic,ix,rfl,f4⟩:=id X;have i9:=xgw f4;clear f4;have F:=F.add X (fun _ _ b h=>jE.ext h (lx b));clear X;go_upto_region 7 with(fail)
 refine zF ?_;intro W7 e7;obtain⟨d7,a6,l0⟩:=qJ e7;have c:=nx c d7;have F:=F.nx d7;clear e7;have F:=F.add a6 (fun _ _ b h=>Blk.I h b);clear a6;go_wp2_with fail
 refine(zI3 _ [2] 1 1 _ _ [[2]] _ (zHS.new _ [2] dE dE) (by rfl) (by rfl) (by rfl) oM oM (by rfl)).mono ?_;rintro e wk ⟨l,rfl,i,f⟩;have f:=nxd f;have c:=nx c f;have F:=F.nx f;obtain⟨p8,p7,p6,rfl⟩:=i.agg;have F:=F.add i (fun _ _ b h=>zAQ.I h b);clear i;go_wp2_with fail
 refine(zI3 _ [3] 1 1 _ _ [[3]] _ (zHS.new _ [3] dE dE) (by rfl) (by rfl) (by rfl) oM oM (by rfl)).mono ?_;rintro e wl ⟨l,rfl,i,f⟩;have f:=nxd f;have c:=nx c f;have F:=F.nx f;obtain⟨r4,r0,p9,rfl⟩:=i.agg;have F:=F.add i (fun _ _ b h=>zAQ.I h b);clear i;go_wp2_with fail
 refine(zYN _ _ wl F.h.1.2 F.h.2).mono ?_;rintro e wm ⟨l,rfl,rfl,f⟩;have c:=nx c f;have F:=F.nx f;go_upto_region 8 with(fail)
 refine zF ?_;intro W8 e8;obtain⟨d8,a7,l3⟩:=qJ e8;have c:=nx c d8;have F:=F.nx d8;clear e8;have F:=F.add a7 (fun _ _ b h=>Blk.I h b);clear a7;go_upto_region 8 with(fail)
 have n:=F.h.1.1.1.1.1.1.1.1.1.1.1.1.1.1.1.2.three;have Y:=zFH [2,0];have a0:=zCt (1:Nat) (2:Nat) [[2,0]];have Z:zD0 W8.heap.size 43 2 (fun w v=>zHS w v [2,0]):=zLP _ _ _ dE;have a3:zD0 W8.heap.size 43 2 (fun w v=>zAQ w v (1:Nat) (2:Nat) [[2,0]]):=zJ8 _ dE dE dE;skip;refine zBP [pcD 1 [] (fun w v=>zHS w v [2,0]),pcD 2 [1] (fun w v=>zAQ w v (1:Nat) (2:Nat) [[2,0]]),pcD 3 [2] (fun _ v=>v= .tuple #[.agg #[.bool false,.slice none 0 0],niq 170]),pbA 7 43 2,pbS 8 7 43 2] ?_;refine sRd ?_;refine sRc (fun g hI j a=>?_) (fun _ d=>?_)
 .go_simp
  exact⟨a _ _ (zHS.new _ [2,0] dE dE),(zC _ _).alloc (xgf _) _⟩
 obtain⟨_,-,l,v2,v3,rfl,-⟩:=d;refine sRc (fun g hI U j a=>?_) (fun _ d=>?_)
 .go_simp
  exact ck a (zI3 _ [2,0] 1 2 _ _ [[2,0]] _ U (by rfl) (by rfl) (by rfl) oM oM (by rfl))
 obtain⟨_,-,_,rfl,v4,v5,v6,rfl,-⟩:=d;refine sRc (fun g hI V j a=>?_) (fun _ d=>?_)
 .go_simp
  exact ck a (zVy _ _ _ (F.h.1.1.1.1.1.1.1.1.1.1.1.1.1.1.1.1.1.1.2.I hI.bel) V)
 obtain⟨_,-,rfl⟩:=d;refine sRd ?_;refine sRa (cs:=#[.bool false,.slice none 0 0]) fun A gq=>?_
 refine sRs A (.agg #[.bool false,.slice none 0 0]) ?_;refine sRd ?_;refine sRb ?_;simp only[FA,FC,FN,ptr,List.nil_append,List.cons_append,Act.put,xgh,xgi,xgj];intro i8 f0 _ _ W P _;clear W P;clear Y a0 Z a3 n;have c:=nx c f0;have F:=F.nx f0;go_upto_region 9 with(fail)
 have n:=F.h.1.1.1.1.1.1.1.1.1.1.1.1.1.1.1.2.three;have q:=F.h.1.1.1.1.1.1.1.1.1.1.1.1.1.2.three;go_wp2_with fail
 refine(zQZ _ _ i8 F.h.1.1.1.1.1.1.1.1.1.1.1.1.1.1.1.1.1.1.2 F.h.1.1.1.1.1.1.1.1.1.1.1.1.1.1.2 (zAA dE) dE dE zYC).mono ?_;rintro e wn ⟨l,rfl,⟨u1,rfl,r⟩,f⟩;have c:=nx c f;have F:=F.nx f;clear n q;obtain⟨qo,qn,qk,rfl,-⟩:=id r;have F:=F.add r (fun _ _ b h=>GV.I h b);clear r;go_upto_region 10 with(fail)
 refine zF ?_;intro T e0;obtain⟨b6,a8,k1⟩:=qJ e0;have c:=nx c b6;have F:=F.nx b6;clear e0;have F:=F.add a8 (fun _ _ b h=>Blk.I h b);clear a8;go_upto_region 10 with(fail)
 have n:=F.h.1.1.1.1.1.1.1.1.1.1.1.1.1.1.1.1.1.2.three;have Y:=zFH [4,6];have a0:=zCt (1:Nat) (2:Nat) [[4,6]];have Z:zD0 T.heap.size tGr 2 (fun w v=>zHS w v [4,6]):=zLP _ _ _ dE;have a3:zD0 T.heap.size tGr 2 (fun w v=>zAQ w v (1:Nat) (2:Nat) [[4,6]]):=zJ8 _ dE dE dE;have h9:=zTh 1 [2];have i0:=zTi T.heap.size 2 1 [2] (t:=tGr) dE dE;refine zBP [pcD 1 [] (fun w v=>zHS w v [4,6]),pcD 2 [1] (fun w v=>zAQ w v (1:Nat) (2:Nat) [[4,6]]),pcD 3 [2] (GT 1 [2]),pbA 7 tGr 2,pbS 8 7 tGr 2] ?_;refine sRd ?_;refine sRc (fun g hI j a=>?_) (fun _ d=>?_)
 .go_simp
  exact⟨a _ _ (zHS.new _ [4,6] dE dE),(zC _ _).alloc (xgf _) _⟩
 obtain⟨_,-,l,v2,v3,rfl,-⟩:=d;refine sRc (fun g hI U j a=>?_) (fun _ d=>?_)
 .go_simp
  exact ck a (zI3 _ [4,6] 1 2 _ _ [[4,6]] _ U (by rfl) (by rfl) (by rfl) oM oM (by rfl))
 obtain⟨_,-,_,rfl,v4,v5,v6,rfl,-⟩:=d;refine sRc (fun g hI V j a=>?_) (fun _ d=>?_)
 .go_simp
  exact ck a (zQZ _ _ _ (F.h.1.1.1.1.1.1.1.1.1.1.1.1.1.1.1.1.1.1.1.1.2.I hI.bel) V (zAA dE) dE dE zVo)
 obtain⟨_,-,_,rfl,ro,rn,rk,rfl,-⟩:=d;refine sRd ?_;refine sRa (cs:=#[niq 0,.slice none 0 0]) fun A gq=>?_
 refine sRs A (.agg #[niq 1,.slice ro rn rk]) ?_;refine sRd ?_;refine sRb ?_;simp only[FA,FC,FN,ptr,List.nil_append,List.cons_append,Act.put,xgh,xgi,xgj];intro h7 e9 _ _ W P _;have a9:Blk h7 A tGr #[niq 1,.slice ro rn rk]:=P _ rfl;obtain⟨_,e,r⟩:=W;cases e;clear P h9 i0;clear Y a0 Z a3 n;have c:=nx c e9;have F:=F.nx e9;have F:=F.add r (fun _ _ b h=>GV.I h b);clear r;have F:=F.add a9 (fun _ _ b h=>Blk.I h b);clear a9;go_upto_region 11 with(fail)
 have n:=F.h.1.1.1.1.1.1.1.1.1.1.1.1.1.1.1.1.1.1.1.1.1.2.three;have q:=F.h.1.1.1.1.1.1.1.1.1.1.1.1.1.1.1.1.1.1.1.2.three;go_wp2_with fail
 refine(zUy _ _ h7 F.h.1.1.1.1.1.1.1.1.1.1.1.1.1.1.1.1.1.1.1.1.1.1.1.1 F.h.1.1.1.1.1.1.1.1.1.1.1.1.1.1.1.1.1.1.1.1.1.1.2).mono ?_;rintro e wo ⟨l,rfl,rfl,f⟩;have c:=nx c f;have F:=F.nx f;clear n q;go_upto_region 12 with(fail)
 refine zF ?_;intro k0 e1;obtain⟨b8,b0,k3⟩:=qJ e1;have c:=nx c b8;have F:=F.nx b8;clear e1;have F:=F.add b0 (fun _ _ b h=>Blk.I h b);clear b0;go_upto_region 13 with(fail)
 obtain⟨B,D,E,G,c5,c6⟩:=F.h.1.1.1.1.1.1.1.1.1.1.1.1.1.1.1.1.2.three;obtain⟨H,I,J,K,d5,d6⟩:=F.h.1.1.1.1.1.1.1.1.1.1.1.1.1.1.2.three;have f1:=F.h.1.1.1.1.1.1.1.1.1.1.2.three;have g1:=F.h.1.1.1.1.1.1.1.1.2.two;have L:=zFH [2];have M:=zFH [12];have N:=zCt (1:Nat) (1:Nat) [[2]];have O:=zCt (1:Nat) (1:Nat) [[12]];have d9:=zCt (0:Nat) (2:Nat) [];refine zBP [pcD 1 [] (fun w v=>zHS w v [2]),pcD 2 [1] (fun w v=>zAQ w v (1:Nat) (1:Nat) [[2]]),pcD 3 [2] (fun _ v=>v= .bool true),pcD 6 [] (fun w v=>zHS w v [12]),pcD 7 [6] (fun w v=>zAQ w v (1:Nat) (1:Nat) [[12]]),pcD 8 [7] (fun _ v=>v= .bool true),pcD 12 [] (fun w v=>zAQ w v (0:Nat) (2:Nat) []),pcD 13 [12] (fun _ v=>v= .bool true),pcI 17 (6),pcD 18 [17] (fun _ v=>v= .bool true)] ?_;refine sRd ?_;refine sRc (fun g hI j a=>?_) (fun g9 _=>?_)
 .go_simp
  exact⟨a _ _ (zHS.new _ [2] dE dE),(zC _ _).alloc (xgf _) _⟩
 refine sRc (fun g hI s j a=>by go_simp;exact ck a (zI3 _ [2] 1 1 _ _ [[2]] _ s (by rfl) (by rfl) (by rfl) oM oM (by rfl))) (fun h4 _=>?_);refine sRc (fun g hI x j a=>?_) (fun _ d=>?_)
 .go_simp
  refine(zYp _ _ _ _ _ _ (F.h.1.1.1.1.1.1.1.1.1.1.1.1.1.1.1.1.1.2.I hI.bel) x).mono ?_;rintro e o ⟨v,rfl,d,k⟩;exact⟨_,rfl,a _ _ d,k⟩
 obtain⟨_,-,rfl⟩:=d;refine sRd ?_;refine sRc (fun g hI j a=>?_) (fun m5 _=>?_)
 .go_simp
  exact⟨a _ _ (zHS.new _ [12] dE dE),(zC _ _).alloc (xgf _) _⟩
 refine sRc (fun g hI g7 j a=>by go_simp;exact ck a (zI3 _ [12] 1 1 _ _ [[12]] _ g7 (by rfl) (by rfl) (by rfl) oM oM (by rfl))) (fun h5 _=>?_);refine sRc (fun g hI y j a=>?_) (fun _ d=>?_)
 .go_simp
  refine(zYp _ _ _ _ _ _ (F.h.1.1.1.1.1.1.1.1.1.1.1.1.1.1.1.2.I hI.bel) y).mono ?_;rintro e o ⟨v,rfl,d,k⟩;exact⟨_,rfl,a _ _ d,k⟩
 obtain⟨_,-,rfl⟩:=d;refine sRd ?_;refine sRc (fun g hI j a=>by go_simp;exact ck a (qBd 0 2 _ _ _ (by rfl) (by rfl) oM oM)) (fun l5 _=>?_);refine sRc (fun g hI f7 j a=>?_) (fun _ d=>?_)
 .go_simp
  refine(zYp _ _ _ _ _ _ (F.h.1.1.1.1.1.1.1.1.1.1.1.2.I hI.bel) f7).mono ?_;rintro e o ⟨v,rfl,d,k⟩;exact⟨_,rfl,a _ _ d,k⟩
 obtain⟨_,-,rfl⟩:=d;refine sRd ?_;refine sRc (fun g hI j a=>by go_simp;exact ck a (zBa 6 _ oM oM)) (fun h0 _=>?_);refine sRc (fun g hI u j a=>?_) (fun _ d=>?_)
 .go_simp
  refine(zYk _ _ 6 _ (F.h.1.1.1.1.1.1.1.1.1.2.ext (lx hI.bel)) u).mono ?_;rintro e o ⟨v,rfl,d,k⟩;exact⟨_,rfl,a _ _ d,k⟩
 obtain⟨_,-,rfl⟩:=d;refine sRd ?_;refine sRe ?_;intro r5 f2 s x _ g7 y _ f7 _ u _;have a4:=f2;have c:=nx c a4;have F:=F.nx a4;clear f2 a4 L M N O d9 B D E G c5 c6 H I J K d5 d6 f1 g1;go_upto_region 14 with(fail)
 obtain⟨B,D,E,G⟩:=F.h.1.1.1.2.two;obtain⟨H,I,J,K⟩:=F.h.1.2.two;have L:=zCc [6];have M:=zCc [2];have N:=zHh 0 [6];have O:=zHh 1 [2];refine zBP [pcI 1 (6),pcD 2 [1] (fun w v=>zBy w v [6]),pcD 3 [2] (GV 0 [6]),pcD 4 [3] (fun _ v=>v= .bool true),pcI 7 (2),pcD 8 [7] (fun w v=>zBy w v [2]),pcD 9 [8] (GV 1 [2]),pcD 10 [9] (fun _ v=>v= .bool true)] ?_;refine sRd ?_;refine sRc (fun g hI j a=>by go_simp;exact ck a (zBa 6 _ oM oM)) (fun g9 _=>?_);refine sRc (fun g hI s j a=>?_) (fun h4 _=>?_)
 .have m:jE g g9 6:=s
  obtain⟨R,a1,Q,C,S,rfl,-⟩:=id m;go_simp;exact⟨a _ _ (zBy.one_new _ m),(zC _ _).alloc (xgf _) _⟩
 refine sRc (fun g hI x j a=>?_) (fun l8 _=>?_)
 .have p:zBy g h4 [6]:=x
  obtain⟨o2,n2,k2,rfl,-⟩:=id p;go_simp;exact⟨a _ _ ⟨_,_,_,rfl,p⟩,zC _ _⟩
 refine sRc (fun g hI g4 j a=>?_) (fun _ d=>?_)
 .go_simp
  refine(zLk _ _ _ (F.h.1.1.1.1.2.I hI.bel) g4).mono ?_;rintro e o ⟨v,rfl,d,k⟩;exact⟨_,rfl,a _ _ d,k⟩
 obtain⟨_,-,rfl⟩:=d;refine sRd ?_;refine sRc (fun g hI j a=>by go_simp;exact ck a (zBa 2 _ oM oM)) (fun h5 _=>?_);refine sRc (fun g hI y j a=>?_) (fun i7 _=>?_)
 .have m:jE g h5 2:=y
  obtain⟨R,a1,Q,C,S,rfl,-⟩:=id m;go_simp;exact⟨a _ _ (zBy.one_new _ m),(zC _ _).alloc (xgf _) _⟩
 refine sRc (fun g hI g8 j a=>?_) (fun h6 _=>?_)
 .have p:zBy g i7 [2]:=g8
  obtain⟨o2,n2,k2,rfl,-⟩:=id p;go_simp;exact⟨a _ _ ⟨_,_,_,rfl,p⟩,zC _ _⟩
 refine sRc (fun g hI z j a=>?_) (fun _ d=>?_)
 .go_simp
  refine(zLk _ _ _ (F.h.1.1.2.I hI.bel) z).mono ?_;rintro e o ⟨v,rfl,d,k⟩;exact⟨_,rfl,a _ _ d,k⟩
 obtain⟨_,-,rfl⟩:=d;refine sRd ?_;refine sRe ?_;intro r6 f3 s x g4 _ y g8 z _;have a5:=f3;have c:=nx c a5;have F:=F.nx a5;clear f3 a5 L M N O B D E G H I J K;go_upto_region 15 with(fail)
 obtain⟨B,D,E,G,c5,c6⟩:=F.h.1.1.1.1.1.1.1.1.1.1.1.1.1.1.1.1.1.1.1.1.2.three;obtain⟨H,I,J,K,d5,d6⟩:=F.h.1.1.1.1.1.1.1.1.1.1.1.1.1.1.1.1.1.1.2.three;have f1:=F.h.1.1.1.1.1.1.1.1.1.1.1.1.1.1.1.1.2.three;have L:=zCc [4,-3];have M:=zCc [1,0];have N:=zCc [0];have O:=zFH [4,6];have d9:=zCt (2:Nat) (1:Nat) [[4],[6]];refine zBP [pcI 9 (4),pcI 10 (-3),pcD 11 [9,10] (fun w v=>zBy w v [4,-3]),pcD 12 [11] (fun _ v=>v= .bool true),pcI 16 (1),pcI 17 (0),pcD 18 [16,17] (fun w v=>zBy w v [1,0]),pcD 19 [18] (fun _ v=>v= .bool false),pcI 24 (0),pcD 25 [24] (fun w v=>zBy w v [0]),pcD 26 [25] (fun _ v=>v= .bool false),pcD 32 [] (fun _ v=>v= .bool true),pcD 37 [] (fun _ v=>v= .bool false),pcD 41 [] (fun w v=>zHS w v [4,6]),pcD 42 [41] (fun w v=>zAQ w v (2:Nat) (1:Nat) [[4],[6]]),pcD 44 [42] (fun _ v=>v= .bool true)] ?_;refine sRd ?_;refine sRc (fun g hI j a=>by go_simp;exact ck a (zBa 4 _ oM oM)) (fun h6 _=>?_);refine sRc (fun g hI j a=>by go_simp;exact ck a (zBa (-3) _ oM oM)) (fun i4 _=>?_);refine sRc (fun g hI z f5 j a=>?_) (fun l4 _=>?_)
 .have m:jE g h6 (4):=z
  have p:jE g i4 (-3):=f5;obtain⟨R,a1,Q,C,S,rfl,-⟩:=id m;obtain⟨s2,a2,l2,h8,x2,rfl,-⟩:=id p;go_simp;exact⟨a _ _ (zBy.two _ m p),(zC _ _).alloc (xgf _) _⟩
 refine sRc (fun g hI f6 j a=>?_) (fun _ d=>?_)
 .go_simp
  refine(zP3 4 (-3) true _ _ _ (F.h.1.1.1.1.1.1.1.1.1.1.1.1.1.1.1.1.1.1.1.2.I hI.bel) f6 dE dE ⟨fun _=>zY0,fun _=>rfl⟩).mono ?_;rintro e o ⟨v,rfl,d,k⟩;exact⟨_,rfl,a _ _ d,k⟩
 obtain⟨_,-,rfl⟩:=d;refine sRd ?_;refine sRc (fun g hI j a=>by go_simp;exact ck a (zBa 1 _ oM oM)) (fun i5 _=>?_);refine sRc (fun g hI j a=>by go_simp;exact ck a (zBa 0 _ oM oM)) (fun h0 _=>?_);refine sRc (fun g hI f8 u j a=>?_) (fun l6 _=>?_)
 .have m:jE g i5 (1):=f8
  have p:jE g h0 (0):=u;obtain⟨R,a1,Q,C,S,rfl,-⟩:=id m;obtain⟨s2,a2,l2,h8,x2,rfl,-⟩:=id p;go_simp;exact⟨a _ _ (zBy.two _ m p),(zC _ _).alloc (xgf _) _⟩
 refine sRc (fun g hI f9 j a=>?_) (fun _ d=>?_)
 .go_simp
  refine(zP3 1 0 false _ _ _ (F.h.1.1.1.1.1.1.1.1.1.1.1.1.1.1.1.1.1.1.1.2.I hI.bel) f9 dE dE ⟨nofun,fun h=>absurd h zT1⟩).mono ?_;rintro e o ⟨v,rfl,d,k⟩;exact⟨_,rfl,a _ _ d,k⟩
 obtain⟨_,-,rfl⟩:=d;refine sRd ?_;refine sRc (fun g hI j a=>by go_simp;exact ck a (zBa 0 _ oM oM)) (fun i6 _=>?_);refine sRc (fun g hI g2 j a=>?_) (fun l7 _=>?_)
 .have m:jE g i6 0:=g2
  obtain⟨R,a1,Q,C,S,rfl,-⟩:=id m;go_simp;exact⟨a _ _ (zBy.one_new _ m),(zC _ _).alloc (xgf _) _⟩
 refine sRc (fun g hI g3 j a=>?_) (fun _ d=>?_)
 .go_simp
  refine(zMR _ _ zPB [0] _ (F.h.1.1.1.1.1.1.1.1.1.1.1.1.1.1.1.1.1.1.1.2.I hI.bel) (zAA dE) g3 dE).mono ?_;rintro e o ⟨v,rfl,d,k⟩;exact⟨_,rfl,a _ _ d,k⟩
 obtain⟨_,-,rfl⟩:=d;refine sRd ?_;refine sRc (fun g hI j a=>?_) (fun _ d=>?_)
 .go_simp
  refine(zYr _ _ _ (F.h.1.1.1.1.1.1.1.1.1.1.1.1.1.1.1.1.1.1.1.2.I hI.bel) (F.h.1.1.1.1.1.1.1.1.1.1.1.1.1.1.1.1.1.1.1.1.1.1.1.2.I hI.bel)).mono ?_;rintro e o ⟨v,rfl,d,k⟩;exact⟨_,rfl,a _ _ d,k⟩
 obtain⟨_,-,rfl⟩:=d;refine sRd ?_;refine sRc (fun g hI j a=>?_) (fun _ d=>?_)
 .go_simp
  refine(zYs _ _ _ (F.h.1.1.1.1.1.1.1.1.1.1.1.1.1.1.1.1.1.1.1.1.1.1.1.2.I hI.bel) (F.h.1.1.1.1.1.1.1.1.1.1.1.1.1.1.1.1.1.1.1.2.I hI.bel)).mono ?_;rintro e o ⟨v,rfl,d,k⟩;exact⟨_,rfl,a _ _ d,k⟩
 obtain⟨_,-,rfl⟩:=d;refine sRd ?_;refine sRc (fun g hI j a=>?_) (fun l9 _=>?_)
 .go_simp
  exact⟨a _ _ (zHS.new _ [4,6] dE dE),(zC _ _).alloc (xgf _) _⟩
 refine sRc (fun g hI g5 j a=>by go_simp;exact ck a (zI3 _ [4,6] 2 1 _ _ [[4],[6]] _ g5 (by rfl) (by rfl) (by rfl) oM oM (by rfl))) (fun m0 _=>?_);refine sRd ?_;refine sRc (fun g hI g6 j a=>?_) (fun _ d=>?_)
 .go_simp
  refine(zX8 _ _ _ g6 (F.h.1.1.1.1.1.1.1.1.1.1.1.1.1.1.1.1.1.2.I hI.bel)).mono ?_;rintro e o ⟨v,rfl,d,k⟩;exact⟨_,rfl,a _ _ d,k⟩
 obtain⟨_,-,rfl⟩:=d;refine sRd ?_;refine sRe ?_;intro r7 i3 z f5 f6 _ f8 u f9 _ g2 g3 _ _ _ g5 g6 _;have c:=nx c i3;go_wp2;go_ret;exact⟨rfl,c⟩
structure Gd(C e:Nat)(L:(Nat->Int)->Prop):Prop where
 bd:Bd C e L
 hb:∃m G,HB C m G L
theorem Gd.mono(h:Gd C e L)(k:e<=e'):Gd C e' L:=⟨h.bd.mono k,h.hb⟩
theorem zTS(a:R<=6)(A:Nat->Nat->Int):∃m G,HB C m G (yD R C A):=by
 obtain⟨r,c,H,U,V,h⟩:=zHc (C:=C) a A;exact⟨r,H,h.lat.hb⟩
theorem zOr(c:R<=6)(b:C<=4)(a:leM (2^e) R C A):Gd C (4*e+17) (yD R C A):=⟨zOY b a,zTS c A⟩
theorem Gd.of(h:Gd C e L)(k:∀x,L x↔L' x):Gd C e L':=⟨h.bd.of k,h.hb.elim fun m h=>h.elim fun G h=>⟨m,G,h.of k⟩⟩
theorem zNu(C r:Nat)(c:List Int):leM (2^4) (r%4) C (zSY C c):=fun a _ b _=>zD (zJn C c a b) dE
theorem zFv(b:C<=3)(a:List Int):Gd C 33 (zD1 C r a):=zOr (e:=4) oM oM (zNu C r a)
def Ans(f:Bool)(P:Prop):Prop:=f=true↔P
theorem zJv(P:Prop):∃f:Bool,f=true↔P:=by
 by_cases h:P
 .exact⟨true,fun _=>h,fun _=>rfl⟩
 exact⟨false,nofun,fun g=>absurd g h⟩
end Go.Proofs.YtkidaebmhlijlaaGreat
