/- Joined. -/
import Derived.Test.YtkidaebmhlijlaaGreatE30
set_option linter.unusedVariables false
set_option linter.unusedSimpArgs false
set_option linter.unusedSectionVars false
set_option maxHeartbeats 16000000
set_option maxRecDepth 100000
variable{C R:Nat}
namespace Go.Proofs.YtkidaebmhlijlaaGreat
open Go.RowKit
theorem zIx(v:Value)(zs:List Int)(w:World)(h:zBy w v zs):
  CPq 86 #[v] w fun e w'=>e= .returned (.bool true)/\BWq w w':=by
 obtain⟨C,n,D,rfl,g,E,F,-⟩:=id h;have m:=xgw g;clear g;go_enter Tryz.func86,Tryz.ntmps86;go_wp2;go_loopw [7] (fun f wr=>∃k:Nat,k<=n/\f=niq k/\BWq w wr) (fun f _=>n-(intOf f).toNat)
 case atStart=>exact⟨0,oM,rfl,zC _ _⟩
 obtain⟨k,H,rfl,d⟩:=hrel;by_cases u:k<n
 .obtain⟨b,z,s,a,l,c,rfl,G,x,A,B,y⟩:=(h.I d).cell (k:=k) (by rw[m.out];exact u)
  clear x;go_upto_region 4 with(fail)
  refine zF ?_;intro p j;obtain⟨i,o,I⟩:=qJ j;have q:=o.two;clear A B j;go_wp2_with fail
  refine(zOL _ z p (y.ext (lx i))).mono ?_;rintro e J ⟨rfl,t⟩;have r:=nx (nx d i) t;clear q;go_wp2;go_roundw
  case rel=>exact⟨k+1,oM,by simp,r⟩
  case measure=>exact meq
 obtain rfl:k=n:=oM;go_wp2;go_ret;exact⟨rfl,d⟩
theorem zZY{Q c g:Nat}{n o:Nat->Nat}{A B d f:Nat->Nat->Int}(h1:zJY R C c n A d)(h2:zJY Q C g o B f){ans:Bool}(j:ans=true↔∀x,yD R C A x↔yD Q C B x):decide (genM c C d=genM g C f)=ans:=by
 have h:(genM c C d=genM g C f)↔∀x,yD R C A x↔yD Q C B x:=by
  constructor
  .intro e x
   obtain rfl:c=g:=by
    have:=congrArg List.length e;simpa[genM]using this
   have l:∀a,a<c->∀b,b<C->d a b=f a b:=fun a i b k=>by
    have:=congrArg (fun M=>ent M a b) e;rw[show ent (genM c C d) a b=d a b from yZ i k,show ent (genM c C f) a b=f a b from yZ i k]at this;exact this
   exact(h1.hb.iff x).trans ((yD.congr l x).trans (h2.hb.iff x).symm)
  intro m;exact(h1.hb.mat h2.hb m).2
 by_cases e:genM c C d=genM g C f
 .rw[zQ e,j.2 (h.1 e)]
 rw[zT e];cases i:ans with
 |false=>rfl
 |true=>exact absurd (h.2 (j.1 i)) e
theorem zO9(F G:Value)(R Q C D:Nat)(M N:List (List Int))(w:World)(h1:zAQ w F R C M)(h2:zAQ w G Q D N)(r:zBW R C M)(s:zBW Q D N)(hC:C<=1000000)(l:C=D)
  (d:∀(v:Value) (w:World),zAQ w v R C M->CPq 59 #[v] w fun e w'=>∃v,e= .returned v/\zIg R C (ent M) w' v/\BWq w w')
  (f:∀(v:Value) (w:World),zAQ w v Q D N->CPq 59 #[v] w fun e w'=>∃v,e= .returned v/\zIg Q D (ent N) w' v/\BWq w w')
  {ans:Bool} (y:ans=true↔∀x,yD R C (ent M) x↔yD Q C (ent N) x):
  CPq 27 #[F,G] w fun e w'=>∃v,e= .returned v/\v= .bool ans/\BWq w w':=by
 have o:=xgv h1;have p:=xgv h2;obtain⟨A1,rfl,h1⟩:=h1;obtain⟨A2,rfl,h2⟩:=h2;have J:=xgv r;have K:=xgv s;have q:=xgv l;have L:=xgv y;have O:=xgv d;have P:=xgv f;have I:jI (((C:Int)==(D:Int))=true):=⟨by rw[l];simp⟩;clear h1 h2 r s l y d;go_enter Tryz.func27,Tryz.ntmps27;go_upto_region 1 with(fail)
 refine zF ?_;intro Y t;obtain⟨a0,b,c,a4⟩:=zAU t;have h:=b.three;have i:=c.three;clear t;go_wp2_with fail
 refine(zFd _ _ _ _ _ _ Y).mono ?_;rintro e w1 ⟨rfl,d,f,n⟩;have a:=nx a0 n;have b:=b.I n;have c:=c.I n;clear h i;go_wp2_with fail
 refine(zDd (.inl rfl) _ _ 1 50 _ (yG _ _ _) (ans:=true) (k:=0) rfl (fun W g=>zEi _ _ R C Q D _ _ M N W (((o.out.I a).I ((zC _ _).alloc (xgf _) _)).I g) J.out (((p.out.I a).I ((zC _ _).alloc (xgf _) _)).I g) K.out ((d.I ((zC _ _).alloc (xgf _) _)).I g) ((f.I ((zC _ _).alloc (xgf _) _)).I g) I.out)).mono ?_;rintro e H ⟨v,rfl,rfl,a1⟩;have m:BWq w1 H:=nx ((zC _ _).alloc (xgf _) _) a1;have a:=nx a m;have b:=b.I m;have c:=c.I m;clear d f;have h:=b.three;have i:=c.three;go_wp2_with fail
 refine(zGX _ _ R C Q D M N H (o.out.I a) (p.out.I a) O.out P.out).mono ?_;rintro e w3 ⟨q1,o1,n1,d,q2,o2,n2,f,rfl,⟨r1,a6,G1,z,B⟩,⟨r2,a7,G2,A,E⟩,a2⟩;have a:=nx a a2;have U:=xgv B;have V:=xgv E;have S:=xgv z;have T:=xgv A;clear h i b c B E z A;go_upto_region 4 with(fail)
 refine zF ?_;intro Z u;obtain⟨j,X,a5⟩:=qJ u;have t1:=X.six;have a:=nx a j;clear u;go_wp2_with fail
 refine(zYX _ _ r1 r2 C _ _ Z (U.out.I j) (by simpa only[q.out]using V.out.I j) (jJ _ _ _) (jJ _ _ _) hC).mono ?_;rintro e w5 ⟨v,rfl,rfl,a3⟩;rw[zZY S.out (by simpa only[q.out]using T.out) L.out];have a:=nx a a3;go_wp2;go_ret;exact⟨_,rfl,rfl,a⟩
theorem zMQ{e k:Nat}(D E:Value)(M:List (List Int))(x:Nat->Int)(w:World)(h1:zAQ w D R C M)(p:zBW R C M)(h2:zBy w E (yV C x))(hC:C<=4)
  (B:∀(v:Value) (w:World),zAQ w v R C M->CPq 59 #[v] w fun e w'=>∃v,e= .returned v/\zIg R C (ent M) w' v/\BWq w w')
  (z:∀r c G,zJY R C r c (ent M) G->HNw r C e (genM r C G)) (U:e<=10000) (y:k<=2^e) (i:∀b,b<C->(x b).natAbs<=k) {ans:Bool} (s:ans=true↔yD R C (ent M) x):
  CPq 35 #[D,E] w fun e w'=>∃v,e= .returned v/\v= .bool ans/\BWq w w':=by
 have m:=xgv h1;obtain⟨Z,rfl,h1⟩:=h1;obtain⟨xo,xn,xc,rfl,F,x3,x4,-⟩:=id h2;rw[qN]at F;subst F;have n:=xgv h2;have I:=xgv p;have L:=xgv s;have P:=xgv B;have N:=xgv z;have J:=xgv y;have HB:=xgv i;clear h1 h2 p s B z y i;go_enter Tryz.func35,Tryz.ntmps35;go_upto_region 1 with(fail)
 refine zF ?_;intro Q q;obtain⟨o,f,a1⟩:=qJ q;have g:=f.three;clear q;go_wp2_with fail
 refine(zMZ _ R C M Q (m.out.I o) I.out).mono ?_;rintro e V ⟨v,rfl,rfl,t⟩;have d:=nx o t;have f:=f.I t;clear g;have g:=f.three;go_wp2_with fail
 refine(zIx _ _ V (n.out.I d)).mono ?_;rintro e W ⟨rfl,u⟩;have d:=nx d u;have f:=f.I u;clear g;have g:=f.three;go_wp2_with fail
 refine(P.out _ W (m.out.I d)).mono ?_;rintro e X ⟨v,rfl,⟨r,Y,G,j,l⟩,S⟩;have d:=nx d S;have A:=N.out r Y G j;have a0:r<=C:=j.hb.le_cols;have h:ans=true↔yD r C (ent (genM r C G)) x:=L.out.trans ((j.hb.iff x).trans (yD.congr (fun a h b i=>(yZ h i).symm) x));have H:=xgv h;have O:=xgv A;have K:=xgv l;obtain⟨m1,m2,m3,rfl⟩:=l.agg;clear g h A l j;go_wp2_with fail
 refine(zLU _ _ _ x X K.out O.out (n.out.I d) oM oM U J.out HB.out H.out).mono ?_;rintro e w4 ⟨v,rfl,rfl,T⟩;have d:=nx d T;go_wp2;go_ret;exact⟨_,rfl,rfl,d⟩
theorem zXc(v:Value)(R C:Int)(M:List (List Int))(w:World)(h:zAQ w v R C M)(a:∀r∈M,∀z∈r,Sm z)(b:zSg R C M):
  CPq 83 #[v] w fun e w'=>∃v,e= .returned v/\v= .bool true/\BWq w w':=by
 refine(zUP v R C M w h a).mono ?_;rintro e w' ⟨d,rfl,hd,c⟩;exact⟨_,rfl,by rw[hd.2 b],c⟩
def qBI(R C:Nat)(W:List (List Int)):World->Value->Prop:=fun w v=>∃U V,zJZ w v R C W U V
end Go.Proofs.YtkidaebmhlijlaaGreat
