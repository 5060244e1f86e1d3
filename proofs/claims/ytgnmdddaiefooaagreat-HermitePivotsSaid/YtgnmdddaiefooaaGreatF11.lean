/- The reference's integers, ninth part: divide. The reference's integers, tenth part: DivMod. The reference's integers, eleventh part: Gcd. -/
import Derived.Test.YtgnmdddaiefooaaGreatF09
import Derived.Test.YtgnmdddaiefooaaGreatF10
set_option linter.unusedVariables false
set_option linter.unusedSimpArgs false
set_option linter.unusedSectionVars false
set_option maxHeartbeats 16000000
set_option maxRecDepth 100000
namespace Go.Proofs.YtgnmdddaiefooaaGreat
open Go.RowKit
theorem zBN(w:World):qB w (.agg #[.bool false,.slice none 0 0]) 0:=
 ⟨false,none,0,0,[],rfl,rfl,xgf _,by omega,zG.nil _ _,qK.nil,rfl,fun _=>rfl⟩
def zNl(w:World)(a b:Nat)(e:Ending)(w':World):Prop:=
 ∃v1 v2,e= .returned (.tuple #[v1,v2])/\qB w' v1 ((a/b:Nat):Int)/\qB w' v2 ((a%b:Nat):Int)/\Below w.heap.size w w'
def zHK:Nat:=1099511627774
theorem zAM:zHK=1099511627774:=rfl
structure Smd(z:Int):Prop where
 lt:z.natAbs<B32^zHK
theorem Smd.sm{z:Int}(h:Smd z):Sm z:=Nat.lt_of_lt_of_le h.lt (jV (by rw[zAM,yT];omega))
theorem Smd.mono{z y:Int}(h:Smd z)(hy:y.natAbs<=z.natAbs):Smd y:=⟨Nat.lt_of_le_of_lt hy h.lt⟩
theorem zBU(a b:Nat)(h:a+1<=b):B32^a<B32^b:=by
 have h1:B32^(a+1)<=B32^b:=jV h;rw[Nat.pow_succ]at h1;have h2:0<B32^a:=Nat.pow_pos dE;have h3:B32^a*2<=B32^a*B32:=Nat.mul_le_mul_left _ dE;omega
theorem Smd.sm1{z y:Int}(h:Smd z)(hy:y.natAbs<=z.natAbs+1):Sm y:=
 Nat.lt_of_le_of_lt hy (Nat.lt_of_le_of_lt h.lt (zBU zHK LIM (by rw[zAM,yT];omega)))
theorem Smd.len{neg:Bool}{xs:List Nat}(h:Smd (sgn neg (nat xs)))(hn:qK xs):xs.length<=zHK:=by
 have h:=h.lt;rw[qH]at h;cases hx:xs.length with
 |zero=>omega
 |succ n=>
  have h1:=zEK hn hx;rcases Nat.lt_or_ge n zHK with h2|h2
  ·omega
  ·have:=jV h2;omega

end Go.Proofs.YtgnmdddaiefooaaGreat
