/- Joined. -/
import Derived.Test.YtkidaebmhlijlaaGreatE30
set_option linter.unusedVariables false
set_option linter.unusedSimpArgs false
set_option linter.unusedSectionVars false
set_option maxHeartbeats 16000000
set_option maxRecDepth 100000
variable{L1 L2:(Nat->Int)->Prop}{v:Array Go.Value}{ans:Bool}{M N:List (List Int)}{zs:List Int}{C R base e h k m n p r s:Nat}{c:Nat->Nat}{A F G P Q:Nat->Nat->Int}{W w:Go.World}
namespace Go.Proofs.YtkidaebmhlijlaaGreat
open Go.RowKit
def BX(C:Nat)(L:(Nat->Int)->Prop)(w:World)(v:Value):Prop:=∃m G,HB C m G L/\zAQ w v m C (genM m C G)
theorem zAc(C:Nat)(L:(Nat->Int)->Prop):zAj (BX C L):=fun _ _ _ e ⟨m,G,a,b⟩=>⟨m,G,a,b.I e⟩
theorem zIg.same{o:Option Addr}(h:zIg R C A w (.agg #[niq (r:Nat),niq C,.slice o n k])):∃c G,zJY R C r c A G/\zAQ w (.agg #[niq (r:Nat),niq C,.slice o n k]) r C (genM r C G):=by
 obtain⟨d,c,G,b,a⟩:=h;obtain⟨f,e,-⟩:=id a;injection e with e
 simp only[Array.mk.injEq,List.cons.injEq]at e;obtain⟨e,-⟩:=e;injection e with _ e
 obtain rfl:r=d:=oM;exact⟨c,G,b,a⟩
theorem Hnf.self(h:Hnf C R r c G):Hnf C r r c G:=⟨xgf _,h.ech,h.red,fun a b d=>oM⟩
theorem qAq{κ F:Nat->Nat}(c:Hnf C p p κ P)(D:Hnf C s s F Q)(B:C<=3)(x:∀a,a<p+s->∀b,b<C->A a b=zJA p P Q a b):
  ∃q,zDk q (p+s) C A/\(∀k,zDk k (p+s) C A->k<=q)/\p<=q/\s<=q/\q<=3/\Ech C p κ A/\zF0 (fun _ _=>True) p κ A:=by
 obtain⟨q,w,r⟩:=zYl (p+s) C A;have e:∀a,a<p->∀b,b<C->A a b=P a b:=fun a d b f=>by rw[x a oM b f];unfold zJA;rw[zB d]
 have z:∀a,a<s->∀b,b<C->A (p+a) b=Q a b:=fun a d b f=>by rw[x (p+a) oM b f];unfold zJA;rw[zA oM,zAo]
 refine⟨q,w,r,r p ?_,r s ?_,zD w.cols B,⟨c.ech.lt,fun k g=>?_,fun k g t E=>?_,c.ech.inc⟩,fun i j y m _=>?_⟩
 .obtain⟨u,v,h,l,n⟩:=c.ech.min1
  refine⟨u,v,fun a d=>by have:=h a d;omega,l,fun o=>n ?_⟩;rw[<-o];exact zAs fun a d b f=>(e _ (h a d) _ (l b f)).symm
 .obtain⟨u,v,h,l,n⟩:=D.ech.min1
  refine⟨fun a=>p+u a,v,fun a d=>by have:=h a d;dsimp only;omega,l,fun o=>n ?_⟩;rw[<-o];exact zAs fun a d b f=>(z _ (h a d) _ (l b f)).symm
 .rw[e k g _ (c.ech.lt k g)]
  exact c.ech.pos k g
 .rw[e k g t (by have:=c.ech.lt k g;omega)]
  exact c.ech.zero k g t E
 rw[e i (Nat.lt_trans y m) _ (c.ech.lt j m),e j m _ (c.ech.lt j m)];exact c.red i j y m trivial
def kB6(h:Nat):Nat:=24*(8*(6*(24*h^4)))^4
theorem zZl(b:h<=2^e):kB6 h<=2^(16*e+49):=by
 have c:h^4<=2^(e*4):=by rw[jT];exact yU b 4
 have a:8*(6*(24*h^4))<=2^(e*4+11):=by rw[yM];omega
 have d:(8*(6*(24*h^4)))^4<=2^((e*4+11)*4):=by rw[jT];exact yU a 4
 rw[show 16*e+49=(e*4+11)*4+5 by omega,yM];unfold kB6;omega
theorem zRY{q:Nat}(h:zI1 (p+s) C A m G)(d:zDk q (p+s) C A)(g:p<=q)(i:s<=q):m<=p/\m<=s:=by
 obtain⟨b,r,c,H,U,V,a⟩:=h;have e:=zHd a b;have f:=a.lat.rank d;omega
theorem zO8(g:zI1 R C A m G)(d:R<=6)(b:C<=4)(i:m<=4)(h1:1<=h)(a:leM h R C A):leM (kB6 h) m R G:=by
 obtain⟨e,r,c,H,U,V,f⟩:=g;exact zOt (N:=6) f e (.inr b) oM d i h1 a
theorem zTb(q:∀a,a<p+s->∀b,b<C->A a b=zJA p P Q a b)(D:zI1 (p+s) C A m G)(S:p<=3)(T:s<=3)(M:C<=3)(R:m<=p)(h1:1<=h)(N:2*h<=2^e)(O:e<=2000)(u:leM h p C P)(I:leM h s C Q):
  zGh (genM m p G) (genM p C P) m p C/\leM (2^(17*e+52)) m C (ent (genM m C (zHU (genM m p G) (genM p C P) p)))/\(∀r∈genM m (p+s) G,∀z∈r,Sm z)∧
   ∀x,yD m C (ent (genM m C (zHU (genM m p G) (genM p C P) p))) x↔zDI (yD p C P) (yD s C Q) x:=by
 have F:leM h (p+s) C A:=fun a J b l=>by
  rw[q a J b l];unfold zJA;split;exact u a oM b l;exact I _ oM b l
 have H:=zO8 D oM oM oM h1 F;have K:=zZl (h:=h) (e:=e) oM;have k:leM (2^(16*e+49)) m (p+s) G:=H.mono K;have v:leM (2^e) p C P:=u.mono oM;have w:2^(17*e+49)=2^(16*e+49)*2^e:=by rw[<-yM];congr 1;omega
 have y:∀i,i<m->∀j,j<C->ent (genM m C (zHU (genM m p G) (genM p C P) p)) i j=qS p fun t=>G i t*P t j:=fun i c j d=>by
  rw[yZ c d];unfold zHU;rw[zIX];exact zL fun t g=>by rw[yZ c g,yZ g d]
 refine⟨zLZ (h1:=2^(16*e+49)) (h2:=2^e) (e:=17*e+53) (fun i c j d=>?_) (fun i c j d=>?_) oM ?_ oM,fun i c j d=>?_,zLS (h:=2^(16*e+49)) (e:=16*e+50) ?_ oM (jJ _ _ _) fun i c j d=>by rw[yZ c d];exact k i c j d,fun x=>?_⟩;rw[yZ c d];exact k i c j oM;rw[yZ c d];exact v i c j d
 .have o:2^(17*e+53)=2^(17*e+49)*16:=by rw[show 17*e+53=17*e+49+4 by omega,yM]
  have E:2^(16*e+49)*1<=2^(16*e+49)*2^e:=zG _ (qG oM);have L:1*2^e<=2^(16*e+49)*2^e:=zP _ (qG oM);rw[o,w];omega
 .rw[y i c j d]
  have:=zD9 (n:=p) (f:=fun t=>G i t*P t j) (B:=2^(17*e+49)) fun t g=>by
   rw[w,qU];exact qO (k i c t oM) (v t g j d)
  have o:2^(17*e+52)=2^(17*e+49)*8:=by rw[show 17*e+52=17*e+49+3 by omega,yM]
  have E:p*2^(17*e+49)<=8*2^(17*e+49):=zP _ oM;omega
 .rw[show 16*e+50=16*e+49+1 by omega,qE 2 (16*e+49)]
  omega
 have hK:HB (p+s) m G (zOS (p+s) C (zJA p P Q)):=D.1.of fun x=>zOS.congr q x
 exact(yD.congr y x).trans (zJ4 hK x)
theorem zP8(h:zBW p C M)(k:zBW s C N):zBW (p+s) C (M++N):=
 ⟨by rw[zAY,h.1,k.1],fun r a=>(List.mem_append.1 a).elim (h.2 r) (k.2 r)⟩
def qAE(n:Nat):World->Value->Prop:=fun w v=>∃b,v=slq b n n/\Blk w b tN (zBo n fun t=>(t:Int))
theorem zLJ(n:Nat):zAj (qAE n):=fun _ _ _ e ⟨b,a,c⟩=>⟨b,a,c.I e⟩
theorem zLO(n0 m n:Nat):zD0 n0 32 m (qAE n):=fun _ _ _ _ _ _ d _ _ ⟨b,a,c⟩=>⟨b,a,c.wrT d dE⟩
theorem zO3(n0 m:Nat)(R C:Int)(M:List (List Int)):zD0 n0 32 m (zVS R C M):=fun _ _ _ _ _ _ c _ _ ⟨u,a,b⟩=>⟨u,a,b.wrT c dE dE dE⟩
theorem zRb(v1 v2:Value)(R Q C D h e:Nat)(M N:List (List Int))(w:World)(h1:zAQ w v1 R C M)(h2:zAQ w v2 Q D N)(c5:zBW R C M)(c6:zBW Q D N)(hC:C<=3)(hD:C=D)(a8:1<=h)(he:2*h<=2^e)(h0:e<=2000)
  (z:∀(v:Value) (w:World),zAQ w v R C M->CPq 59 #[v] w fun e w'=>∃v,e= .returned v/\zIg R C (ent M) w' v/\BWq w w')
  (I:∀(v:Value) (w:World),zAQ w v Q D N->CPq 59 #[v] w fun e w'=>∃v,e= .returned v/\zIg Q D (ent N) w' v/\BWq w w')
  (y:∀r c G,zJY R C r c (ent M) G->leM h r C G) (a1:∀r c G,zJY Q D r c (ent N) G->leM h r D G):
  CPq 18 #[v1,v2] w fun e w'=>∃v,e= .returned (.tuple #[v,niq 0])/\BX C (zDI (yD R C (ent M)) (yD Q C (ent N))) w' v/\BWq w w':=by
 subst hD;have H1:=xgv h1;have H2:=xgv h2;obtain⟨A1,rfl,h1⟩:=h1;obtain⟨A2,rfl,h2⟩:=h2;have f4:=xgv c5;have f5:=xgv c6;have S:=xgv he;have K1:=xgv z;have K2:=xgv I;have f2:=xgv y;have f3:=xgv a1;have f0:jI (((C:Int)==(C:Int))=true):=⟨by simp⟩;clear h1 h2 c5 c6 he z y a1;go_enter Tryz.func18,Tryz.ntmps18;go_upto_region 1 with(fail)
 refine zF ?_;intro W0 c7;obtain⟨g3,u,x,d,i9⟩:=zBc c7;have c1:=u.three;have d1:=x.three;clear c7;go_wp2_with fail
 refine(zFd _ _ _ _ _ _ W0).mono ?_;rintro e0 w1 ⟨rfl,z,I,y⟩;have f:=nx g3 y;have u:=u.I y;have x:=x.I y;have d:=d.I y;clear c1 d1;go_wp2_with fail
 refine(zDd (.inl rfl) _ _ 1 50 _ (yG _ _ _) (ans:=true) (k:=0) rfl (fun W hW=>zEi _ _ R C Q C _ _ M N W (((H1.out.I f).I ((zC _ _).alloc (xgf _) _)).I hW) f4.out (((H2.out.I f).I ((zC _ _).alloc (xgf _) _)).I hW) f5.out ((z.I ((zC _ _).alloc (xgf _) _)).I hW) ((I.I ((zC _ _).alloc (xgf _) _)).I hW) f0.out)).mono ?_;rintro e0 w2 ⟨v,rfl,rfl,a1⟩;have a0:BWq w1 w2:=nx ((zC _ _).alloc (xgf _) _) a1;have f:=nx f a0;have u:=u.I a0;have x:=x.I a0;have d:=d.I a0;clear z I;have c1:=u.three;have d1:=x.three;go_wp2_with fail
 refine(zGX _ _ R C Q C M N w2 (H1.out.I f) (H2.out.I f) K1.out K2.out).mono ?_;rintro e3 w3 ⟨p,o1,n1,z,s,o2,n2,I,rfl,d7,d8,d5⟩;obtain⟨b6,O,J,m1⟩:=d7.same;obtain⟨l0,P,K,m2⟩:=d8.same;have f:=nx f d5;have d:=d.I d5;have e1:p<=3:=zD J.hb.le_cols hC;have e2:s<=3:=zD K.hb.le_cols hC;have a6:=xgv (f2.out _ _ _ J);have a7:=xgv (f3.out _ _ _ K);obtain⟨A,Y⟩:∃A,genM p C O++genM s C P=A:=⟨_,rfl⟩;have f6:jI (zBW (p+s) C A):=⟨by rw[<-Y];exact zP8 (jJ _ _ _) (jJ _ _ _)⟩;have a5:jI (∀a,a<p+s->∀b,b<C->ent A a b=zJA p O P a b):=⟨fun a t b l=>by
  rw[<-Y,zJu (jJ _ _ _) (jJ _ _ _)];unfold zJA;split;exact yZ (by assumption) l;exact yZ oM l⟩
 have f1:jI (leM h (p+s) C (ent A)):=⟨fun a t b l=>by
  rw[a5.out a t b l];unfold zJA;split;exact a6.out a (by assumption) b l;exact a7.out _ oM b l⟩
 obtain⟨q,hq⟩:∃q,zDk q (p+s) C (ent A)/\(∀k,zDk k (p+s) C (ent A)->k<=q)/\p<=q/\s<=q/\q<=3/\Ech C p b6 (ent A)/\zF0 (fun _ _=>True) p b6 (ent A):=qAq J.hnf.self K.hnf.self hC a5.out;have n:=xgv hq;have f8:=xgv J;have f9:=xgv K;have b9:jI ((∀r∈genM p C O,∀b5∈r,Sm b5)/\∀r∈genM s C P,∀b5∈r,Sm b5):=⟨zLS S.out oM (jJ _ _ _) fun a t b l=>by rw[yZ t l];exact a6.out a t b l,zLS S.out oM (jJ _ _ _) fun a t b l=>by rw[yZ t l];exact a7.out a t b l⟩;have i:=xgv m1;have X:=xgv m2;have HA:=xgv Y;clear c1 d1 u x m1 m2 J K d7 d8 Y hq;go_upto_region 5 with(fail)
 refine zF ?_;intro W5 c9;obtain⟨Z,j,k3⟩:=qJ c9;have f:=nx f Z;have d:=d.I Z;have i:=xgv (i.out.I Z);have X:=xgv (X.out.I Z);have o:=j.six;clear c9;go_wp2_with fail
 refine(zLY _ _ p s C (genM p C O) (genM s C P) W5 i.out X.out (jJ _ _ _) (jJ _ _ _) oM oM oM b9.out.1 b9.out.2).mono ?_;rintro e6 w6 ⟨v,rfl,g,a3⟩;rw[HA.out]at g;obtain⟨s1,s2,s3,rfl⟩:=g.agg;have f:=nx f a3;have d:=d.I a3;have j:=j.I a3;have i:=xgv (i.out.I a3);have T:=xgv g;clear o g X;go_upto_region 6 with(fail)
 refine zF ?_;intro W7 d0;obtain⟨B,T8,k4⟩:=qJ d0;have f:=nx f B;have d:=d.I B;have j:=j.I B;have i:=xgv (i.out.I B);have T:=xgv (T.out.I B);have o:=T8.three;clear d0;go_wp2_with fail
 refine(zTe (q:=q) (p:=p) (κ:=b6) a8 _ A (p+s) C W7 T.out f6.out oM oM f1.out oM n.out.2.2.2.2.2.1 n.out.2.2.2.2.2.2 n.out.1 n.out.2.1 (zI (zEj a8 (zYA e1 e2 n.out.2.2.2.2.1 n.out.2.2.1 n.out.2.2.2.1)) (zQB (k:=34) S.out (by rw[zC3];omega)))).mono ?_;rintro e8 w8 ⟨v,rfl,⟨m,G,b0,hm⟩,a4⟩;obtain⟨x1,x2,x3,rfl⟩:=hm.agg;have f:=nx f a4;have d:=d.I a4;have j:=j.I a4;have i:=xgv (i.out.I a4);obtain⟨h6,i8⟩:=zRY b0 n.out.1 n.out.2.2.1 n.out.2.2.2.1;obtain⟨i1,i2,i3,i4⟩:=zTb (h:=h) (e:=e) a5.out b0 e1 e2 hC h6 a8 S.out h0 a6.out a7.out;have I1:=xgv i1;have I2:=xgv i2;have I3:=xgv i3;have I4:=xgv i4;have U:=xgv hm;have d6:genM m p (ent (genM m (p+s) G))=genM m p G:=jX fun k6 hi k7 hj=>yZ hi oM
 have f7:=xgv d6;clear o T8 T i1 i2 i3 i4 hm b0 d6;go_upto_region 7 with(fail)
 refine zF ?_;intro W9 d2;obtain⟨E,c0,k5⟩:=qJ d2;have f:=nx f E;have d:=d.I E;have j:=j.I E;have i:=xgv (i.out.I E);have U:=xgv (U.out.I E);have o:=c0.three;have u1:=j.six;clear d2;have g4:=zO2 (m:Int) p (genM m p G);have g5:=zLJ m;have g6:=zLJ p;have g7:=zO3 W9.heap.size 3 (m:Int) p (genM m p G);have g8:=zLO W9.heap.size 3 m;have g9:=zLO W9.heap.size 3 p;refine zBP [pcD 3 [] (qAE m),pcD 7 [] (qAE p),pcD 8 [3,7] (zVS (m:Int) p (genM m p G)),pbA 12 32 3,pbS 13 12 32 3] ?_;refine sRd ?_;refine sRc (fun L hI Gk F=>?_) (fun _ g=>?_)
 .go_simp
  refine(zNH m L oM).mono ?_;rintro e wa ⟨rfl,g,H⟩;exact⟨_,rfl,F _ _ ⟨_,rfl,g⟩,H⟩
 obtain⟨_,-,b3,rfl,-⟩:=g;refine sRd ?_;refine sRc (fun L hI Gk F=>?_) (fun _ g=>?_)
 .go_simp
  refine(zNH p L oM).mono ?_;rintro e wa ⟨rfl,g,H⟩;exact⟨_,rfl,F _ _ ⟨_,rfl,g⟩,H⟩
 obtain⟨_,-,b7,rfl,-⟩:=g;refine sRc (fun L hI h3 h7 Gk F=>?_) (fun _ g=>?_)
 .obtain⟨_,e3,h4⟩:=h3
  cases e3;obtain⟨_,e7,h5⟩:=h7;cases e7;go_simp;refine(zTu _ m (p+s) p b3 b7 _ L (U.out.I hI.bel) (jJ _ _ _) oM oM oM I3.out h4 h5).mono ?_;rintro e wa ⟨v,rfl,g,H⟩;exact⟨_,rfl,F _ _ (f7.out ▸ g),H⟩
 obtain⟨_,-,_,rfl,Av,rfl,vo,vn,vc,rfl,-⟩:=g;refine sRd ?_;refine sRa (cs:=#[niq 0,niq 0,.slice none 0 0]) fun c4 i7=>?_
 refine sRs c4 (.agg #[niq (m:Int),niq p,.slice vo vn vc]) ?_;refine sRd ?_;refine sRb ?_;simp only[FA,FC,FN,ptr,List.nil_append,List.cons_append,Act.put,xgh,xgi,xgj];intro e5 a2 _ _ h8 e4 _;have c3:Blk e5 c4 32 #[niq (m:Int),niq p,.slice vo vn vc]:=e4 _ rfl;obtain⟨_,e8,d9⟩:=h8;cases e8;have b8:=xgv d9;have f:=nx f a2;have d:=d.I a2;have j:=j.I a2;have i:=xgv (i.out.I a2);clear o u1 c0 d9 e4 g4 g5 g6 g7 g8 g9 U;have o:=c3.three;have u1:=j.six;go_wp2_with fail
 refine(qAl _ _ m p C _ _ e5 b8.out i.out (jJ _ _ _) (jJ _ _ _) oM oM oM I1.out).mono ?_;rintro i5 k8 ⟨yo,yn,yc,rfl,hy,d3⟩;have f:=nx f d3;have d:=d.I d3;have V:=xgv hy;clear o u1 c3 j i b8 hy;go_upto_region 9 with(fail)
 refine zF ?_;intro g2 c8;obtain⟨a9,c2,k0⟩:=qJ c8;have f:=nx f a9;have d:=d.I a9;have V:=xgv (V.out.I a9);have o:=c2.three;clear c8;go_wp2_with fail
 refine(zNT (M0:=2^(17*e+52)) (qG dE) _ _ m C g2 V.out.off (jJ _ _ _) oM oM (zI (zEj (qG dE) (zX9 (show m<=3 by omega))) (zQB (e:=17*e+53) (k:=7) (by rw[show 17*e+53=17*e+52+1 by omega,qE 2 (17*e+52)];omega) (by rw[zC3];omega))) I2.out).mono ?_;rintro i6 k9 ⟨v,r,c,e9,h9,i0,rfl,hf,b2,d4⟩;obtain⟨z1,z2,z3,rfl⟩:=b2.agg;have f:=nx f d4;have d:=d.I d4;have HF:=xgv hf;have g1:=xgv b2;clear o c2 V hf b2;have r1:=d.three;go_wp2;refine bodyPost_ret (zDh rfl _ rfl (d.put3 _ _ _) rfl) rfl ⟨_,rfl,⟨r,e9,HF.out.lat.hb.of fun b4=>(I4.out b4).trans ?_,g1.out.keep3 d _ _ _⟩,yB (yB (yB f oM 0 _) oM 1 _) oM 2 _⟩;exact and_congr (f8.out.hb.iff b4).symm (f9.out.hb.iff b4).symm
theorem zUO(b:Nat)(c d f g h i:Value)(w:World)(k:Blk w b tBm #[c,d,f,g,h,i]){ans:Bool}
  (a:CPq 69 #[.agg #[g,h,i],.agg #[c,d,f]] w fun e w'=>∃v,e= .returned v/\v= .bool ans/\BWq w w'):
  CPq 77 #[ptq b 0] w fun e w'=>∃v,e= .returned v/\v= .bool ans/\BWq w w':=by
 have m:=k.six;have j:=xgv a;clear a;go_enter Tryz.func77,Tryz.ntmps77;go_wp2_with fail
 refine j.out.mono ?_;rintro e n ⟨v,rfl,rfl,l⟩;go_wp2;go_ret;exact⟨_,rfl,rfl,l⟩
theorem zRL(b:Nat)(c d f g h i:Value)(w:World)(k:Blk w b tBm #[c,d,f,g,h,i]){ans:Bool}
  (a:CPq 69 #[.agg #[g,h,i],.agg #[c,d,f]] w fun e w'=>∃v,e= .returned v/\v= .bool ans/\BWq w w'):
  CPq 68 #[ptq b 0] w fun e w'=>∃v,e= .returned v/\v= .bool ans/\BWq w w':=by
 have m:=k.six;have j:=xgv a;clear a;go_enter Tryz.func68,Tryz.ntmps68;go_wp2_with fail
 refine j.out.mono ?_;rintro e n ⟨v,rfl,rfl,l⟩;go_wp2;go_ret;exact⟨_,rfl,rfl,l⟩
theorem zRM(b a c:Nat)(g h i j:Value)(w:World)(f:Blk w b tBm #[niq a,g,h,niq c,i,j])(d:((a:Int)==(c:Int))=ans):
  CPq 70 #[ptq b 0] w fun e w'=>∃v,e= .returned v/\v= .bool ans/\BWq w w':=by
 have k:=f.six;go_enter Tryz.func70,Tryz.ntmps70;go_wp2;go_ret;refine⟨_,rfl,?_,zC _ _⟩;rw[<-d];rfl
theorem zQ2(u x:Array Value)(b c:Nat)(y z:Int)(w:World)(d:Blk w b tCn #[.func (.func 68) #[] u,niq y,.func (.func 70) #[] x,niq z]){a1 a2:Bool}{k:Int}(B:(if a1=true then(if a2=true then 0 else z)else y)=k)
  (hc:∀(W:World),BWq w W->CPq 68 u W fun e w'=>∃v,e= .returned v/\v= .bool a1/\BWq W w')
  (A:∀(W:World),BWq w W->CPq 70 x W fun e w'=>∃v,e= .returned v/\v= .bool a2/\BWq W w'):
  CPq 56 #[slq b 2 c] w fun e w'=>∃v,e= .returned v/\v=niq k/\BWq w w':=by
 have o:=xgv B;have C:=xgv hc;have D:=xgv A;clear B hc A;go_enter Tryz.func56,Tryz.ntmps56;go_wp2;go_loopw [7] (fun t wr=>∃i:Nat,i<=2/\t=niq i/\BWq w wr/\jI ((1<=i->a1=true)/\(2<=i->a2=true))) (fun t _=>2-(intOf t).toNat)
 case atStart=>exact⟨0,oM,rfl,zC _ _,⟨⟨fun h=>oM,fun h=>oM⟩⟩⟩
 obtain⟨i,H,rfl,n,s⟩:=hrel;have d:=d.I n;have I:=d.cell 0;have J:=d.cell 1;have K:=d.cell 2;have L:=d.cell 3;rcases(by omega:i=0∨i=1∨i=2)with rfl|rfl|rfl
 .rw[show((0:Nat):Int)=(0:Int) from rfl]
  go_upto_region 4 with(fail)
  refine zF ?_;intro p l;obtain⟨r,a,F⟩:=qJ l;have f:=a.two;have g:=nx n r;clear l;go_wp2_with fail
  refine(C.out p g).mono ?_;rintro e G ⟨v,rfl,rfl,m⟩;have j:=nx g m;have a:=a.I m;clear f;have f:=a.two;cases a1 with
  |true=>
   go_wp2;go_roundw
   case rel=>exact⟨1,oM,by simp,j,⟨by simp⟩⟩
   case measure=>simp[intOf]
  |false=>
   go_wp2;go_ret;exact⟨_,rfl,by rw[<-o.out];rfl,j⟩
 .have q:=s.out.1 (xgf _)
  subst q;rw[show((1:Nat):Int)=(1:Int) from rfl];go_upto_region 4 with(fail)
  refine zF ?_;intro p l;obtain⟨r,a,F⟩:=qJ l;have f:=a.two;have g:=nx n r;clear l;go_wp2_with fail
  refine(D.out p g).mono ?_;rintro e G ⟨v,rfl,rfl,m⟩;have j:=nx g m;have a:=a.I m;clear f;have f:=a.two;cases a2 with
  |true=>
   go_wp2;go_roundw
   case rel=>exact⟨2,oM,by simp,j,⟨by simp⟩⟩
   case measure=>simp[intOf]
  |false=>
   go_wp2;go_ret;exact⟨_,rfl,by rw[<-o.out];rfl,j⟩
 have q:=s.out.1 oM;have E:=s.out.2 oM;subst q;subst E;go_wp2;go_ret;exact⟨_,rfl,by rw[<-o.out];rfl,n⟩
abbrev tGr:TypeId:=48
theorem Tryz.sizeGr:(Tryz.prog.info? tGr).map (·.size)=some 2:=by kernel_rfl
theorem zR7(a:Blk W r tGr v)(h2:v.size=2):(loadVar tGr ⟨r,0,none⟩).run Tryz.prog W= .ok (.agg v) W:=
 run_loadVar_row W r _ _ v _ _ a Tryz.underlying48 rfl (by rw[Tryz.sizeGr,h2])
theorem zLi{fn:Func}{p u:Tmp}(h:fn.results=#[.cell p tGr,.tmp u])(tmps:Array Value){W:World}{r:Nat}{v:Array Value}
  (b:tmps.getD p undef=ptq r 0) (a:Blk W r tGr v) (h2:v.size=2):
  (results fn tmps).run Tryz.prog W= .ok (.tuple #[.agg v,tmps.getD u undef]) W:=by
 have c:tmps[p]?.getD undef=ptq r 0:=by simpa using b
 simp[results,h,c,asAddr,zR7 a h2]
theorem zR8(a:Blk W r tI v)(h2:v.size=2):(loadVar tI ⟨r,0,none⟩).run Tryz.prog W= .ok (.agg v) W:=
 run_loadVar_row W r _ _ v _ _ a zCP rfl (by rw[zEX,h2])
theorem zGc{fn:Func}{p u:Tmp}(h:fn.results=#[.cell p tI,.tmp u])(tmps:Array Value){W:World}{r:Nat}{v:Array Value}
  (b:tmps.getD p undef=ptq r 0) (a:Blk W r tI v) (h2:v.size=2):
  (results fn tmps).run Tryz.prog W= .ok (.tuple #[.agg v,tmps.getD u undef]) W:=by
 have c:tmps[p]?.getD undef=ptq r 0:=by simpa using b
 simp[results,h,c,asAddr,zR8 a h2]
theorem zWv(n:Nat)(F:Nat->Int):(zOF n F).length<=n:=by
 have h:=zCY (fun z=>decide (1<z)) (yV n F);rw[qN]at h;exact h
theorem zBy.keepB{w':World}{a:Option Addr}{c:Nat}(h:zBy w (.slice a n c) zs)(e:∀b,a=some ⟨b,0,none⟩->w'.heap[b]?=w.heap[b]?)(x:zBq w w'):zBy w' (.slice a n c) zs:=by
 obtain⟨l,o,m,d,f,g,i,j⟩:=h;cases d;exact⟨_,_,_,rfl,f,g,i,fun k=>(j k).elim fun b h=>⟨b,h.1,h.2.old (e b h.1) x⟩⟩
theorem zEt.ltq{v:Value}(h:zEt w base v zs):∀g,v.ownBlock=some g->g<w.heap.size:=fun g b=>by
 obtain⟨c,a,-⟩:=h;exact(a.lt g b).2
theorem zEt.set1{v:Value}(h:zEt w base v zs)(n:r<base){t:TypeId}{cs:Array Value}(j:Blk w r t cs)(o:t≠tU)(k:Nat)(x:Value):zEt (w.setCell ⟨r,k,none⟩ x) base v zs:=by
 have p:=j.lext o k x;obtain⟨b,g,i⟩:=h;refine⟨b,ownsRow_setCell_below g (a:=⟨r,k,none⟩) n x,fun k z m=>?_⟩;obtain⟨s,a,l,c,d,e,f⟩:=i k z m;exact⟨s,a,l,c,d,e,f.ext p⟩
def zSX(C:Nat)(L1 L2:(Nat->Int)->Prop)(b:Int)(ts:List Int):Prop:=∃(m k r:Nat) (P Q K F:Nat->Nat->Int),HB C m P L1/\HB C k Q L2/\(∀i,i<k->∀b,b<C->Q i b=qS m fun t=>K i t*P t b)/\Inv k m r K F/\b=(m:Int)-k/\ts=zOF r fun i=>F i i
def zHT(C:Nat)(L1 L2:(Nat->Int)->Prop)(z:Int):Prop:=∃(m:Nat) (c c':Nat->Nat) (P Q:Nat->Nat->Int),HB C m P L1/\HB C m Q L2/\Ech C m c P/\Ech C m c' Q/\z*zMw m c P=zMw m c' Q
def qAH(P:Int->List Int->Prop)(w:World)(v:Value):Prop:=∃(b:Int) (ts:List Int) (o:Option Addr) (n c:Nat),v= .agg #[niq b,.slice o n c]/\zBy w (.slice o n c) ts/\P b ts
def qA2(a1:Bool)(P:Int->List Int->Prop)(w:World)(v:Value)(k:Int):Prop:=(a1=false/\k=160/\v= .agg #[niq 0,.slice none 0 0])∨(a1=true/\k=0/\qAH P w v)
def qAy(a1 a2:Bool)(P:Int->Prop)(w:World)(v:Value)(k:Int):Prop:=(a1=false/\k=160/\v= .agg #[.bool false,.slice none 0 0])∨(a1=true/\a2=false/\k=170/\v= .agg #[.bool false,.slice none 0 0])∨(a1=true/\a2=true/\k=0/\∃z,jE w v z/\P z)
theorem zK3(a:Hnf C m m c (ent M))(f:∀i,i<k->yD m C (ent M) (ent N i)):∀i,i<k->∀b,b<C->ent N i b=qS m fun t=>zEv C M N i t*ent M t b:=
 fun i e b d=>zNv ((zNx a _).2 (f i e) b d)
theorem zQl(h1:HB C m P L1)(h2:HB C k Q L2):(∀i,i<k->yD m C (ent (genM m C P)) (ent (genM k C Q) i))↔∀x,L2 x->L1 x:=by
 have e:∀x,yD m C (ent (genM m C P)) x↔L1 x:=fun x=>(yD.congr (fun a c b d=>yZ c d) x).trans (h1.iff x).symm
 have f:∀x,yD k C (ent (genM k C Q)) x↔L2 x:=fun x=>(yD.congr (fun a c b d=>yZ c d) x).trans (h2.iff x).symm
 exact⟨fun h x j=>(e x).1 (yD.sub h ((f x).2 j)),fun h i g=>(e _).2 (h _ ((f _).1 (yD.row _ g)))⟩
theorem zJc{z:Int}(h:z.natAbs<=24*SW^4):Smd z:=by
 refine⟨zI h (zM (m:=2^500) ?_ (zFN (by rw[zC3];omega)))⟩;rw[zL2];decide+kernel
theorem Inv.sizes(hI:Inv R C r A F)(g:R<=4)(e:leM SW R C A):(∀i,i<r->Smd (F i i))/\∀i,i<=r->Smd (jB i fun i=>F i i):=by
 have h:=hI.small g zF5 e;have b:∀i,i<r->0<F i i:=fun i a=>hI.dg.pos i a
 have k:0<jB r fun i=>F i i:=zAT b
 refine⟨fun i a=>zJc ?_,fun i a=>zJc ?_⟩
 .have c:=zPO (f:=fun i=>F i i) b a
  have d:=b i a;omega
 have c:=zLd (f:=fun i=>F i i) b i a;have d:0<jB i fun i=>F i i:=zAT fun j l=>b j oM
 omega
theorem zXP{K:Nat->Nat->Int}(h1:HB C m P L1)(h2:HB C m Q L2)(hK:∀i,i<m->∀b,b<C->Q i b=qS m fun t=>K i t*P t b)(hI:Inv m m r K F):zHT C L1 L2 (jB r fun i=>F i i):=by
 obtain⟨c,a⟩:=h1.hnf;obtain⟨e,d⟩:=h2.hnf;have f:=zS3 a.ech d.ech hK;have j:=zHR a.ech;have k:=zHR d.ech;have hd:0<det m K:=by
  rcases zC4 0 (det m K)with h|h
  exact h;have:=Int.mul_nonpos_of_nonpos_of_nonneg h (zBQ j);omega
 obtain⟨-,g⟩:=zYQ hI hd;exact⟨m,c,e,P,Q,h1,h2,a.ech,d.ech,by rw[g];exact f⟩
theorem zTv(v1 v2:Value)(R Q C l j e:Nat)(M N:List (List Int))(w:World)(h1:zAQ w v1 R C M)(h2:zAQ w v2 Q C N)(e5:zBW R C M)(e7:zBW Q C N)(hC:C<=3)(o5:1<=l)(he:2*l<=2^e)(g1:j<=2^e)(o7:e<=2000)(h0:8*j<=SW)
  (k1:∀(v:Value) (w:World),zAQ w v R C M->CPq 59 #[v] w fun e w'=>∃v,e= .returned v/\zIg R C (ent M) w' v/\BWq w w')
  (k2:∀(v:Value) (w:World),zAQ w v Q C N->CPq 59 #[v] w fun e w'=>∃v,e= .returned v/\zIg Q C (ent N) w' v/\BWq w w')
  (S:∀r c G,zJY R C r c (ent M) G->leM l r C G) (c2:∀r c G,zJY Q C r c (ent N) G->leM j r C G) {a1:Bool} (f7:a1=true↔∀x,yD Q C (ent N) x->yD R C (ent M) x):
  CPq 22 #[v1,v2] w fun e w'=>∃v k,e= .returned (.tuple #[v,.int .i64 k])/\qA2 a1 (zSX C (yD R C (ent M)) (yD Q C (ent N))) w' v k/\BWq w w':=by
 have p1:∀(fn:Fn) (first e4:Array Value) (w:World),(Instr.makeFunc fn first e4).run Tryz.prog w= .ok (.func fn first e4) w:=fun _ _ _ _=>rfl
 have H1:=xgv h1;have H2:=xgv h2;obtain⟨A1,rfl,h1⟩:=h1;obtain⟨A2,rfl,h2⟩:=h2;have i7:=xgv e5;have i8:=xgv e7;have K1:=xgv k1;have K2:=xgv k2;have i4:=xgv S;have i5:=xgv c2;have k7:=xgv h0;have k6:=xgv f7;have i6:jI (2*l<=2^e):=⟨he⟩;have d7:jI (j<=2^e):=⟨g1⟩;have i3:jI (((C:Int)==(C:Int))=true):=⟨by simp⟩;clear h1 h2 e5 e7 k1 S c2 h0 f7 he g1;go_enter Tryz.func22,Tryz.ntmps22;go_upto_region 1 with(fail)
 refine zF ?_;intro W0 e8;obtain⟨l7,J,K,d,p6⟩:=zBc e8;have c1:=J.three;obtain⟨V,X,Y,Z,d5,d6⟩:=K.three;clear e8;go_wp2_with fail
 refine(zFd _ _ _ _ _ _ W0).mono ?_;rintro e0 w1 ⟨rfl,k1,k2,S⟩;have f:=nx l7 S;have J:=J.I S;have K:=K.I S;have d:=d.I S;clear c1 V X Y Z d5 d6;go_wp2_with fail
 refine(zDd (.inl rfl) _ _ 1 50 _ (yG _ _ _) (ans:=true) (k:=0) rfl (fun W E=>zEi _ _ R C Q C _ _ M N W (((H1.out.I f).I ((zC _ _).alloc (xgf _) _)).I E) i7.out (((H2.out.I f).I ((zC _ _).alloc (xgf _) _)).I E) i8.out ((k1.I ((zC _ _).alloc (xgf _) _)).I E) ((k2.I ((zC _ _).alloc (xgf _) _)).I E) i3.out)).mono ?_;rintro e0 w2 ⟨v,rfl,rfl,c2⟩;have c0:BWq w1 w2:=nx ((zC _ _).alloc (xgf _) _) c2;have f:=nx f c0;have J:=J.I c0;have K:=K.I c0;have d:=d.I c0;clear k1 k2;have c1:=J.three;obtain⟨V,X,Y,Z,d5,d6⟩:=K.three;go_wp2_with fail
 refine(zGX _ _ R C Q C M N w2 (H1.out.I f) (H2.out.I f) K1.out K2.out).mono ?_;rintro e3 w3 ⟨m,o1,n1,k1,k,o2,n2,k2,rfl,g3,g4,f8⟩;obtain⟨n4,G1,T,m1⟩:=g3.same;obtain⟨s4,G2,l2,m2⟩:=g4.same;have f:=nx f f8;have d:=d.I f8;have o9:m<=3:=zD T.hb.le_cols hC;have o8:k<=3:=zD l2.hb.le_cols hC;have i9:=xgv (i4.out _ _ _ T);have k3:=xgv (i5.out _ _ _ l2);obtain⟨P,O⟩:∃P,genM m C G1=P:=⟨_,rfl⟩;obtain⟨U,hU⟩:∃U,genM k C G2=U:=⟨_,rfl⟩;have e1:jI (HNw m C e P):=⟨by
  rw[<-O];have:=i6.out;exact⟨jJ _ _ _,⟨m,n4,T.hnf.self.genM⟩,fun a l b j=>by rw[yZ l j];have:=i9.out a l b j;omega⟩⟩
 have n5:jI (zBW m C P):=⟨by rw[<-O];exact jJ _ _ _⟩;have d8:jI (zBW k C U):=⟨by rw[<-hU];exact jJ _ _ _⟩;have c5:jI (leM j k C (ent U)):=⟨fun a l b j=>by rw[<-hU,yZ l j];exact k3.out a l b j⟩;have e2:jI (a1=true↔∀i,i<k->yD m C (ent P) (ent U i)):=⟨by rw[<-O,<-hU];exact k6.out.trans (zQl T.hb l2.hb).symm⟩;have HH:jI (∃c,Hnf C m m c (ent P)):=⟨by rw[<-O];exact⟨_,T.hnf.self.genM⟩⟩;rw[O]at m1;rw[hU]at m2;have HP:=xgv O;have HU:=xgv hU;have p:=xgv m1;have q:=xgv m2;have L1:=xgv T.hb;have L2:=xgv l2.hb;clear c1 V X Y Z d5 d6 J K m1 m2 T l2 g3 g4 O hU;go_upto_region 5 with(fail)
 refine zF ?_;intro W5 f5;obtain⟨b9,s,r4⟩:=qJ f5;have f:=nx f b9;have d:=d.I b9;have p:=xgv (p.out.I b9);have q:=xgv (q.out.I b9);clear f5;have p2:0<=3:=oM;go_wp2_with fail
 refine(zDd (.inr rfl) _ _ 1 160 _ (yG _ _ _) (ans:=a1) (k:=if a1=true then 0 else 160) rfl (fun W E=>zUO _ _ _ _ _ _ _ W ((s.I ((zC _ _).alloc (xgf _) _)).I E) (zHG _ _ U P W ((q.out.I ((zC _ _).alloc (xgf _) _)).I E) d8.out ((p.out.I ((zC _ _).alloc (xgf _) _)).I E) e1.out oM oM oM oM d7.out c5.out e2.out))).mono ?_;rintro e6 w6 ⟨v,rfl,rfl,m5⟩;have b3:BWq W5 w6:=nx ((zC _ _).alloc (xgf _) _) m5;have f:=nx f b3;have d:=d.I b3;have r6:=f.size;have r8:=d.lt;have s:=s.I b3;have p:=xgv (p.out.I b3);have q:=xgv (q.out.I b3);cases a1 with
 |false=>
  have r1:=d.two;go_wp2;refine bodyPost_ret (zLi rfl _ rfl (d.put2 _ _) rfl) rfl ⟨_,_,rfl,.inl ⟨rfl,rfl,rfl⟩,yB (yB f oM 0 _) oM 1 _⟩
 | true=>
  have g9:IntKind.i64.wrap ((m:Int)-(k:Int))=(m:Int)-k:=yC _ oM;have g8:=e2.out.1 rfl;have d9:jI (∀i,i<k->∀b,b<C->ent U i b=qS m fun b4=>zEv C P U i b4*ent P b4 b):=⟨by
   obtain⟨c,hc⟩:=HH.out;exact zK3 hc g8⟩
  have d0:jI (leM SW k m (ent (genM k m (zEv C P U)))):=⟨by
   obtain⟨c,hc⟩:=HH.out;exact zOk ((zJj hc oM c5.out d9.out).mono k7.out)⟩
  clear g8;have t1:=s.six;go_upto_region 9 with(fail)
  refine zF ?_;intro W9 f6;obtain⟨a9,g,r5⟩:=qJ f6;try rw[g9]at g
  have f:=nx f a9;have d:=d.I a9;have s:=s.I a9;have p:=xgv (p.out.I a9);have q:=xgv (q.out.I a9);clear f6 t1 g9;go_wp2_with fail
  refine(zGt 1 W9 oM oM).mono ?_;rintro n9 h9 ⟨s2,rfl,hu,a2⟩;obtain⟨un,ua,ul,uc,ux,rfl,h3⟩:=id hu;have n8:=xgw h3;have f:=nx f a2;have d:=d.I a2;have s:=s.I a2;have g:=g.I a2;have p:=xgv (p.out.I a2);have q:=xgv (q.out.I a2);have s0:=g.lt;have s1:=d.lt;clear h3;go_upto_region 10 with(fail)
  refine zF ?_;intro k8 e9;obtain⟨L,c6,p7⟩:=qJ e9;have f:=nx f L;have d:=d.I L;have s:=s.I L;have g:=g.I L;have p:=xgv (p.out.I L);have q:=xgv (q.out.I L);have H:=zB9.mk c6 (hu.ext (lx L));have r9:=c6.lt;clear e9 hu c6;have t1:=s.six;go_wp2_with fail
  refine(zNG o1 _ _ o2 _ _ P U k8 p.out e1.out q.out d8.out oM oM oM oM d7.out c5.out).mono ?_;rintro o0 i0 ⟨u12,rfl,f9,b0⟩;go_wp2_with fail
  refine(zQI _ _ k m i0 f9 (jJ _ _ _) oM oM d0.out).mono ?_;rintro o3 b5 ⟨s3,F,r,rfl,c3,hv,b2⟩;have HV:=xgv hv.vec;have h5:=hv.own;have h4:=hv.ltq;obtain⟨mo,mn,mk,rfl,g5,p3,p4,-⟩:=id hv.vec;obtain rfl:r=mn:=by rw[<-g5,qN]
  have k5:jI (∀b,mo=some ⟨b,0,none⟩->i0.heap.size<=b/\b<b5.heap.size):=⟨fun b j=>by
   subst j;exact⟨h5 b rfl,h4 b rfl⟩⟩
  have k4:=xgv c3;have p9:=b2.size;have p5:r<=min k m:=c3.dg.le;have n7:=xgv (c3.sizes oM d0.out);have f:=nx (nx f b0) b2;clear f9 hv g5 c3 h5 h4;have g:=(g.I b0).I b2;have H:=(H.I b0).I b2;have d:=(d.I b0).I b2;have p8:=b0.size;clear t1 s p q;go_wp2;go_loopw [46] (fun iv wr=>∃i:Nat,i<=r/\iv= .int .i64 i/\BWq w wr/\b5.heap.size<=wr.heap.size/\zBy wr (.slice mo r mk) (yV r fun i=>F i i)/\Blk wr (w.heap.size+1+1) tGr #[.int .i64 0,.slice none 0 0]/\zB9 wr h9.heap.size 1∧
   ∃o n c,Blk wr w6.heap.size tGr #[.int .i64 ((m:Int)-k),.slice o n c]/\zEt wr b5.heap.size (.slice o n c) (zOF i fun i=>F i i)) (fun iv _=>r-(intOf iv).toNat)
  case atStart=>exact⟨0,oM,rfl,f,xgf _,HV.out,d,H,_,_,_,g,zEt.nil _ _⟩
  obtain⟨i,hi,rfl,f,B,D,d,H,o,n,c,g,y⟩:=hrel;by_cases g2:i<r
  .obtain⟨b',a8,sn,sa,sl,sc,rfl,o6,c8,q1,q2,a5⟩:=D.cell (k:=i) (by rw[qN];exact g2)
   obtain⟨p0,m6⟩:=k5.out _ rfl;have h8:a8=F i i:=by
    rw[yO g2]at c8;exact(qD c8).symm
   have HZ:=xgv h8;clear c8 h8;go_upto_region 13 with(fail)
   refine zF ?_;intro k9 f0;obtain⟨A,b7,r0⟩:=qJ f0;have f:=nx f A;have B:=zD B A.size;have D:=D.I A;have d:=d.I A;have g:=g.I A;have H:=H.I A;have y:=y.I A;have a5:=a5.ext (lx A);obtain⟨bn,ba,bl,bc,I,a7⟩:=H;obtain⟨V,X,Y,Z⟩:=b7.two;obtain⟨f1,f2,f3,f4⟩:=I.two;obtain⟨k0,a4⟩:∃k0,zAv a8 1=k0:=⟨_,rfl⟩;clear q1 q2 f0;go_wp2_with fail
   refine(zSx _ _ a8 1 k9 a5.J a7.J).mono ?_;rintro o4 c9 ⟨rfl,u⟩;rw[a4];have f:=nx f u;have B:=zD B u.size;have D:=D.I u;have d:=d.I u;have g:=g.I u;have b7:=b7.I u;have I:=I.I u;have a7:=a7.ext (lx u);have y:=y.I u;have a5:=a5.ext (lx u);clear V X Y Z f1 f2 f3 f4;by_cases c4:1<a8
   .have c7:k0=1:=by rw[<-a4];unfold zAv;(repeat' split)<;>omega
    subst c7;have n6:=xgv a4;have b6:jI ((zOF (i+1) fun i=>F i i)=(zOF i fun i=>F i i)++ [a8]):=⟨by rw[zKf,zB (by rw[<-HZ.out];exact c4),<-HZ.out]⟩;have r7:=zWv i fun i=>F i i
    have t:=xgv y;obtain⟨V,X,Y,Z⟩:=b7.two;obtain⟨f1,f2,f3,f4⟩:=g.two;have z:BWq c9 (c9.alloc (.cells #[.bool sn,.slice sa sl sc] tI)):=(zC _ _).alloc (xgf _) _;have a0:=z.size;have l9:=g.lt;have n0:=I.lt;have n3:=d.lt;clear a4 y c4;have g7:=zD B a0;have a6:=zM l9 a0;have l0:=zM n0 a0;have l4:=zM n3 a0;have l3:=zM (zM m6 B) a0;go_wp2_with (at_builtin;go_loud (refine qAK rfl _ _ rfl b5.heap.size (.slice o n c) (zOF i fun i=>F i i) rfl (t.out.I z) c9.heap.size 1 sn sa sl sc a8 rfl (yG _ _ _) (a5.ext (lx z)) oM g7 ?_;intro v' w' g6 a3 h7;have b8:Blk w' w6.heap.size tGr #[.int .i64 ((m:Int)-k),.slice o n c]:=(a3.block _ a6 (fun e=>by have:=t.out.own _ e.symm;omega)).trans (g.I z);have l5:Blk w' h9.heap.size tI #[.bool bn,.slice ba bl bc]:=(a3.block _ l0 (fun e=>by have:=t.out.own _ e.symm;omega)).trans (I.I z);have l6:Blk w' (w.heap.size+1+1) tGr #[.int .i64 0,.slice none 0 0]:=(a3.block _ l4 (fun e=>by have:=t.out.own _ e.symm;omega)).trans (d.I z);have m0:zBy w' (.slice (some ⟨b',0,none⟩) r mk) (yV r fun i=>F i i):=(D.I z).keepB (fun b e=>by injection e with e;injection e with e;subst e;exact a3.block _ l3 (fun e=>by have:=t.out.own _ e.symm;omega)) h7;have l8:BWq w w':=(nx f z).grown a3 (zD f.size a0) (fun g' hg=>by have:=t.out.own g' hg;omega);have m8:b5.heap.size<=w'.heap.size:=zD g7 a3.size;have m9:=(lx z).trans h7;obtain⟨f1,f2,f3,f4⟩:=b8.two;obtain⟨po,pn,pc,m7⟩:∃o n c,v'= .slice o n c:=(g6.shape).elim fun o h=>h.elim fun c h=>⟨_,_,_,h⟩;subst m7))
    have h6:zBq w' (w'.setCell ⟨w6.heap.size,1,none⟩ (.slice po pn pc)):=b8.lext dE _ _;go_roundw
    case rel=>
     refine⟨i+1,oM,by simp,yB l8 oM _ _,by simpa using m8,m0.keepB (fun b e=>by injection e with e;injection e with e;subst e;exact qC _ _ _ _ _ oM) h6,(qC _ _ _ _ _ oM).trans l6,?_,po,_,pc,by simpa using b8.set_ 1 _,?_⟩;exact zB9.mk ((qC _ _ _ _ _ oM).trans l5) ((a7.ext m9).ext h6);rw[b6.out];exact g6.set1 oM b8 dE 1 _
    case measure=>exact meq
   have c7:k0=0∨k0=-1:=by rw[<-a4];unfold zAv;(repeat' split)<;>omega
   have b6:jI ((zOF (i+1) fun i=>F i i)=zOF i fun i=>F i i):=⟨by rw[zKf,zA (by rw[<-HZ.out];exact c4),zBS]⟩;have t:=xgv y;clear a4 y c4;rcases c7 with rfl|rfl
   .go_wp2
    go_roundw
    case rel=>exact⟨i+1,oM,by simp,f,B,D,d,zB9.mk I a7,_,_,_,g,by rw[b6.out];exact t.out⟩
    case measure=>exact meq
   go_wp2;go_roundw
   case rel=>exact⟨i+1,oM,by simp,f,B,D,d,zB9.mk I a7,_,_,_,g,by rw[b6.out];exact t.out⟩
   case measure=>exact meq
  obtain rfl:i=r:=oM;obtain⟨f1,f2,f3,f4⟩:=g.two;have r1:=d.two;have t:=xgv y;clear y;go_wp2;refine bodyPost_ret (zLi rfl _ rfl (d.put2 _ _) rfl) rfl ⟨_,_,rfl,.inr ⟨rfl,rfl,_,_,_,_,_,rfl,(t.out.set2 oM d dE _ _).vec,m,k,i,_,_,ent (genM k m (zEv C P U)),F,L1.out,L2.out,fun a l b j=>?_,k4.out,rfl,rfl⟩,yB (yB f oM 0 _) oM 1 _⟩;have hq:G2 a b=ent U a b:=by rw[<-HU.out,yZ l j]
  rw[hq,d9.out a l b j];refine zL fun b4 ht=>?_
  have hp:ent P b4 b=G1 b4 b:=by rw[<-HP.out,yZ ht j]
  rw[yZ l ht,hp]
theorem zRa(v1 v2:Value)(R Q C j g e:Nat)(M N:List (List Int))(w:World)(h1:zAQ w v1 R C M)(h2:zAQ w v2 Q C N)(d8:zBW R C M)(d9:zBW Q C N)(hC:C<=3)(k8:1<=j)(he:2*j<=2^e)(f2:g<=2^e)(l0:e<=2000)(f7:8*g<=SW)
  (J:∀(v:Value) (w:World),zAQ w v R C M->CPq 59 #[v] w fun e w'=>∃v,e= .returned v/\zIg R C (ent M) w' v/\BWq w w')
  (k2:∀(v:Value) (w:World),zAQ w v Q C N->CPq 59 #[v] w fun e w'=>∃v,e= .returned v/\zIg Q C (ent N) w' v/\BWq w w')
  (z:∀r c G,zJY R C r c (ent M) G->leM j r C G) (a9:∀r c G,zJY Q C r c (ent N) G->leM g r C G) {a1 a2:Bool} (e7:a1=true↔∀x,yD Q C (ent N) x->yD R C (ent M) x) (e8:∀m k P U,HB C m P (yD R C (ent M))->HB C k U (yD Q C (ent N))->(a2=true↔m=k)):
  CPq 20 #[v1,v2] w fun e w'=>∃v k,e= .returned (.tuple #[v,niq k])/\qAy a1 a2 (zHT C (yD R C (ent M)) (yD Q C (ent N))) w' v k/\BWq w w':=by
 have l7:∀(fn:Fn) (first d7:Array Value) (w:World),(Instr.makeFunc fn first d7).run Tryz.prog w= .ok (.func fn first d7) w:=fun _ _ _ _=>rfl
 have c2:=xgv e8;clear e8;have H1:=xgv h1;have H2:=xgv h2;obtain⟨A1,rfl,h1⟩:=h1;obtain⟨A2,rfl,h2⟩:=h2;have g7:=xgv d8;have g8:=xgv d9;have K1:=xgv J;have K2:=xgv k2;have g4:=xgv z;have g5:=xgv a9;have h8:=xgv f7;have h7:=xgv e7;have g6:jI (2*j<=2^e):=⟨he⟩;have c4:jI (g<=2^e):=⟨f2⟩;have g3:jI (((C:Int)==(C:Int))=true):=⟨by simp⟩;clear h1 h2 d8 d9 J z a9 f7 e7 he f2;go_enter Tryz.func20,Tryz.ntmps20;go_upto_region 1 with(fail)
 refine zF ?_;intro W0 e1;obtain⟨i6,t,u,d,m5⟩:=zBc e1;have c1:=t.three;obtain⟨L,O,S,T,d5,d6⟩:=u.three;clear e1;go_wp2_with fail
 refine(zFd _ _ _ _ _ _ W0).mono ?_;rintro e0 w1 ⟨rfl,J,k2,z⟩;have f:=nx i6 z;have t:=t.I z;have u:=u.I z;have d:=d.I z;clear c1 L O S T d5 d6;go_wp2_with fail
 refine(zDd (.inl rfl) _ _ 1 50 _ (yG _ _ _) (ans:=true) (k:=0) rfl (fun W p=>zEi _ _ R C Q C _ _ M N W (((H1.out.I f).I ((zC _ _).alloc (xgf _) _)).I p) g7.out (((H2.out.I f).I ((zC _ _).alloc (xgf _) _)).I p) g8.out ((J.I ((zC _ _).alloc (xgf _) _)).I p) ((k2.I ((zC _ _).alloc (xgf _) _)).I p) g3.out)).mono ?_;rintro e0 w2 ⟨v,rfl,rfl,a9⟩;have a6:BWq w1 w2:=nx ((zC _ _).alloc (xgf _) _) a9;have f:=nx f a6;have t:=t.I a6;have u:=u.I a6;have d:=d.I a6;clear J k2;have c1:=t.three;obtain⟨L,O,S,T,d5,d6⟩:=u.three;go_wp2_with fail
 refine(zGX _ _ R C Q C M N w2 (H1.out.I f) (H2.out.I f) K1.out K2.out).mono ?_;rintro e3 w3 ⟨m,o1,n1,J,k,o2,n2,k2,rfl,f3,f4,e9⟩;obtain⟨k0,G1,A,m1⟩:=f3.same;obtain⟨o3,G2,l2,m2⟩:=f4.same;have f:=nx f e9;have d:=d.I e9;have l4:m<=3:=zD A.hb.le_cols hC;have l3:k<=3:=zD l2.hb.le_cols hC;have g9:=xgv (g4.out _ _ _ A);have h0:=xgv (g5.out _ _ _ l2);obtain⟨P,y⟩:∃P,genM m C G1=P:=⟨_,rfl⟩;obtain⟨U,E⟩:∃U,genM k C G2=U:=⟨_,rfl⟩;have c7:jI (HNw m C e P):=⟨by
  rw[<-y];have:=g6.out;exact⟨jJ _ _ _,⟨m,k0,A.hnf.self.genM⟩,fun a j b g=>by rw[yZ j g];have:=g9.out a j b g;omega⟩⟩
 have k3:jI (zBW m C P):=⟨by rw[<-y];exact jJ _ _ _⟩;have c5:jI (zBW k C U):=⟨by rw[<-E];exact jJ _ _ _⟩;have b4:jI (leM g k C (ent U)):=⟨fun a j b g=>by rw[<-E,yZ j g];exact h0.out a j b g⟩;have c9:jI (a1=true↔∀i,i<k->yD m C (ent P) (ent U i)):=⟨by rw[<-y,<-E];exact h7.out.trans (zQl A.hb l2.hb).symm⟩;have HH:jI (∃c,Hnf C m m c (ent P)):=⟨by rw[<-y];exact⟨_,A.hnf.self.genM⟩⟩;rw[y]at m1;rw[E]at m2;have HP:=xgv y;have HU:=xgv E;have l:=xgv m1;have n:=xgv m2;have L1:=xgv A.hb;have L2:=xgv l2.hb;clear c1 L O S T d5 d6 t u m1 m2 A l2 f3 f4 y E;go_upto_region 5 with(fail)
 refine zF ?_;intro W5 e5;obtain⟨a5,o,n0⟩:=qJ e5;have f:=nx f a5;have d:=d.I a5;have l:=xgv (l.out.I a5);have n:=xgv (n.out.I a5);clear e5;have h6:jI (((m:Int)==(k:Int))=a2):=⟨by
  have h:=c2.out _ _ _ _ L1.out L2.out;by_cases e:m=k
  .rw[h.2 e,e];simp
  have:a2=false:=by
   cases a2 with
   |false=>rfl
   |true=>exact absurd (h.1 rfl) e
  rw[this];exact beq_eq_false_iff_ne.2 fun h=>e oM⟩
 go_wp2_with fail
 refine(zQ2 _ _ _ 2 160 170 _ (yG _ _ _) (a1:=a1) (a2:=a2) (k:=if a1=true then(if a2=true then 0 else 170)else 160) rfl (fun W p=>zRL _ _ _ _ _ _ _ W ((o.I ((zC _ _).alloc (xgf _) _)).I p) (zHG _ _ U P W ((n.out.I ((zC _ _).alloc (xgf _) _)).I p) c5.out ((l.out.I ((zC _ _).alloc (xgf _) _)).I p) c7.out oM oM oM oM c4.out b4.out c9.out)) (fun W p=>zRM _ m k _ _ _ _ W ((o.I ((zC _ _).alloc (xgf _) _)).I p) h6.out)).mono ?_;rintro e6 w6 ⟨v,rfl,rfl,i7⟩;have Z:BWq W5 w6:=nx ((zC _ _).alloc (xgf _) _) i7;have f:=nx f Z;have d:=d.I Z;have n3:=f.size;have n6:=d.lt;have o:=o.I Z;have l:=xgv (l.out.I Z);have n:=xgv (n.out.I Z);cases a1 with
 |false=>
  have r1:=d.two;go_wp2;refine bodyPost_ret (zGc rfl _ rfl (d.put2 _ _) rfl) rfl ⟨_,_,rfl,.inl ⟨rfl,rfl,rfl⟩,yB (yB f oM 0 _) oM 1 _⟩
 | true=>
  cases a2 with
  |false=>
   have r1:=d.two;go_wp2;refine bodyPost_ret (zGc rfl _ rfl (d.put2 _ _) rfl) rfl ⟨_,_,rfl,.inr (.inl ⟨rfl,rfl,rfl,rfl⟩),yB (yB f oM 0 _) oM 1 _⟩
  | true=>
   obtain rfl:m=k:=(c2.out _ _ _ _ L1.out L2.out).1 rfl;have f6:=c9.out.1 rfl;have c6:jI (∀i,i<m->∀b,b<C->ent U i b=qS m fun a3=>zEv C P U i a3*ent P a3 b):=⟨by
    obtain⟨c,hc⟩:=HH.out;exact zK3 hc f6⟩
   have c3:jI (leM SW m m (ent (genM m m (zEv C P U)))):=⟨by
    obtain⟨c,hc⟩:=HH.out;exact zOk ((zJj hc oM b4.out c6.out).mono h8.out)⟩
   clear f6;go_wp2_with fail
   refine(zGt 1 w6 oM oM).mono ?_;rintro k4 i9 ⟨i8,rfl,I,X⟩;obtain⟨un,ua,ul,uc,ux,rfl,a0⟩:=id I;have h9:=xgw a0;have f:=nx f X;have d:=d.I X;have o:=o.I X;have l:=xgv (l.out.I X);have n:=xgv (n.out.I X);have n8:=d.lt;clear a0;go_upto_region 9 with(fail)
   refine zF ?_;intro i4 e2;obtain⟨B,b5,m6⟩:=qJ e2;have f:=nx f B;have d:=d.I B;have o:=o.I B;have l:=xgv (l.out.I B);have n:=xgv (n.out.I B);have q:=zB9.mk b5 (I.ext (lx B));have n7:=b5.lt;clear e2 I b5;have t1:=o.six;go_wp2_with fail
   refine(zNG o1 _ _ o2 _ _ P U i4 l.out c7.out n.out c5.out oM oM oM oM c4.out b4.out).mono ?_;rintro k5 g1 ⟨u12,rfl,f0,a7⟩;go_wp2_with fail
   refine(zQI _ _ m m g1 f0 (jJ _ _ _) oM oM c3.out).mono ?_;rintro k6 g2 ⟨n9,F,r,rfl,b0,hv,a8⟩;have HV:=xgv hv.vec;have f9:=hv.own;have f8:=hv.ltq;obtain⟨mo,mn,mk,rfl,f5,l8,l9,-⟩:=id hv.vec;obtain rfl:r=mn:=by rw[<-f5,qN]
   have h4:jI (∀b,mo=some ⟨b,0,none⟩->g1.heap.size<=b/\b<g2.heap.size):=⟨fun b g=>by
    subst g;exact⟨f9 b rfl,f8 b rfl⟩⟩
   have h3:=xgv b0;have m8:=a8.size;have m0:r<=min m m:=b0.dg.le;have d0:=xgv (b0.sizes oM c3.out);have f:=nx (nx f a7) a8;clear f0 hv f5 b0 f9 f8;have q:=(q.I a7).I a8;have d:=(d.I a7).I a8;have m7:=a7.size;clear t1 o l n;go_wp2;go_loopw [39] (fun iv wr=>∃i:Nat,i<=r/\iv=niq i/\BWq w wr/\g2.heap.size<=wr.heap.size/\zBy wr (.slice mo r mk) (yV r fun i=>F i i)/\Blk wr (w.heap.size+1+1) tI #[.bool false,.slice none 0 0]/\zB9 wr i9.heap.size (jB i fun i=>F i i)) (fun iv _=>r-(intOf iv).toNat)
   case atStart=>exact⟨0,oM,rfl,f,xgf _,HV.out,d,q⟩
   obtain⟨i,hi,rfl,f,V,H,d,q⟩:=hrel;obtain⟨a4,hy⟩:∃a4,(jB i fun i=>F i i)=a4:=⟨_,rfl⟩;by_cases b6:i<r
   .obtain⟨b',b3,sn,sa,sl,sc,rfl,k9,b9,q1,q2,c0⟩:=H.cell (k:=i) (by rw[qN];exact b6)
    obtain⟨l5,l6⟩:=h4.out _ rfl;have b8:b3=F i i:=by
     rw[yO b6]at b9;exact(qD b9).symm
    have h5:jI ((jB (i+1) fun i=>F i i)=a4*b3):=⟨by rw[b8,<-hy];rfl⟩;have c8:jI (Sm a4/\Sm b3):=⟨by rw[b8,<-hy];exact⟨(d0.out.2 i hi).sm,(d0.out.1 i b6).sm⟩⟩;rw[hy]at q;clear b9 b8 hy;go_upto_region 12 with(fail)
    refine zF ?_;intro i5 e4;obtain⟨D,i3,m9⟩:=qJ e4;have f:=nx f D;have V:=zD V D.size;have H:=H.I D;have d:=d.I D;have q:=q.I D;have c0:=c0.ext (lx D);obtain⟨bn,ba,bl,bc,s,b2⟩:=q;obtain⟨L,O,S,T⟩:=i3.two;have f1:=s.two;clear q1 q2 e4;go_wp2_with fail
    refine(zES _ _ a4 b3 i5 b2.J c0.J c8.out.1 c8.out.2).mono ?_;rintro k7 o0 ⟨i8,rfl,I,Y⟩;obtain⟨un,ua,ul,uc,ux,rfl,a0⟩:=id I;have h9:=xgw a0;have f:=nx f Y;have V:=zD V Y.size;have H:=H.I Y;have d:=d.I Y;have s:=s.I Y;have n4:=s.lt;have n5:=d.lt;have b7:=s.lext2 dE (.bool un) (.slice ua ul uc);clear L O S T f1 a0;have f1:=s.two;go_wp2;go_roundw
    case rel=>
     exact⟨i+1,oM,by simp,yB (yB f oM _ _) oM _ _,by simpa using V,H.keepB (fun b e=>by injection e with e;injection e with e;subst e;exact yL _ _ _ _ _ _ _ oM) b7,(yL _ _ _ _ _ _ _ oM).trans d,by rw[h5.out];exact zB9.put s I⟩
    case measure=>exact meq
   obtain rfl:i=r:=oM;obtain⟨bn,ba,bl,bc,s,b2⟩:=q;have f1:=s.two;have r1:=d.two;have b7:=d.lext2 dE (.bool bn) (.slice ba bl bc);have i0:=xgv (b2.ext b7);clear b2 hy;go_wp2;refine bodyPost_ret (zGc rfl _ rfl (d.put2 _ _) rfl) rfl ⟨_,_,rfl,.inr (.inr ⟨rfl,rfl,rfl,_,i0.out,zXP (K:=ent (genM m m (zEv C P U))) L1.out L2.out (fun a j b g=>?_) h3.out⟩),yB (yB f oM 0 _) oM 1 _⟩;have hq:G2 a b=ent U a b:=by rw[<-HU.out,yZ j g]
   rw[hq,c6.out a j b g];refine zL fun a3 ht=>?_
   have hp:ent P a3 b=G1 a3 b:=by rw[<-HP.out,yZ ht g]
   rw[yZ j ht,hp]
end Go.Proofs.YtkidaebmhlijlaaGreat
