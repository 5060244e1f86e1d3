/- Joined. -/
import Derived.Test.YtniiekppgdkknaaGreatM21
import Derived.Test.YtniiekppgdkknaaGreatM22
set_option linter.unusedVariables false
set_option linter.unusedSimpArgs false
set_option linter.unusedSectionVars false
set_option maxHeartbeats 16000000
set_option maxRecDepth 100000
namespace Go.Proofs.YtniiekppgdkknaaGreat
open Go.RowKit

theorem zG3(f:Nat->Int)(n:Nat):zQz f n=yZ n f:=by
 induction n with
 |zero=>rfl
 |succ n a=>unfold zQz yZ;rw[a]
structure Chk(R C:Nat)(A S U V W X:List (List Int)):Prop where
 fs:zBe R C S
 fu:zBe R R U
 fv:zBe R R V
 fw:zBe C C W
 fx:zBe C C X
 is:zXG R C S=true
 i1:yV R R (zGK U V R)=yV R R idf
 i2:yV C C (zGK W X C)=yV C C idf
 ss:∀r∈S,∀z∈r,Smd z
 m1:zGg U V R R R
 m2:zGg W X C C C
 m3:zGg U A R R C
 m4:zGg (yV R C (zGK U A R)) W R C C
 p:yV R C (zGK (yV R C (zGK U A R)) W C)=S
theorem zRZ(R C D:Nat)(c:List Int):leM 9 R C (zLd D c):=fun a _ b _=>zPU D c a b
theorem zT3{n R C:Nat}{F:Nat->Nat->Int}(h:leM n R C F):leM n R C (ent (yV R C F)):=fun a c b d=>by rw[zA9 c d];exact h a c b d
theorem zWc(v:Value)(r c:Nat)(a:List Int)(w:World)(h:I8V w v a)(i:r<=255)(hc:c<=255)(R C:Nat)(d:R=r%5)(b:C=c%5):
  CPq 5 #[.agg #[.int .u8 r,.int .u8 c,v]] w fun e w'=>∃v,e= .returned v/\zAo w' v R C (yV R C (zLd C a))/\BWq w w':=
 (zMg v r c a w h i hc R C d b).mono fun e w' ⟨v,j,h,g,f⟩=>⟨v,h,g.mat.1,f⟩
end Go.Proofs.YtniiekppgdkknaaGreat
