/- Joined. -/
import Derived.Test.YtkidaebmhlijlaaGreatH01
set_option linter.unusedVariables false
set_option linter.unusedSimpArgs false
set_option linter.unusedSectionVars false
set_option maxHeartbeats 16000000
set_option maxRecDepth 100000
variable{z:Int}{ts:List Int}{C i:Nat}
namespace Go.Proofs.YtkidaebmhlijlaaGreat
open Go.RowKit
theorem zKM(a b:Value)(z:Int)(w:World)(h1:jE w a z)(h2:jE w b z):CPq 29 #[a,b] w fun e w'=>∃v,e= .returned v/\v= .bool true/\BWq w w':=
 (zIS a b z z w h1 h2).mono fun e w' h=>⟨_,h.1,by simp,h.2⟩
theorem MX.gd{e:Nat}{L:(Nat->Int)->Prop}{w:World}{v:Value}(h:MX C e L w v)(c:C<=3):Gd C (4*e+17) L:=by
 obtain⟨R,M,-,-,d,a,b⟩:=h;exact(zOr oM oM a).of b
def zKp(ts:List Int)(i:Nat):Int:=(1::ts).getD i 0
structure qA1(ts:List Int):Prop where
 ge:∀(i:Nat) (z:Int),ts[i]?=some z->2<=z
 dvd:∀(i:Nat) (z:Int),ts[i]?=some z->zKp ts i∣z
 pos:∀i,i<=ts.length->0<zKp ts i
 one:∀(i:Nat) (z:Int),ts[i]?=some z->Smd z
 last:∀i,i<=ts.length->Smd (zKp ts i)
 part:∀i,Smd (zEo (ts.take i))
end Go.Proofs.YtkidaebmhlijlaaGreat
