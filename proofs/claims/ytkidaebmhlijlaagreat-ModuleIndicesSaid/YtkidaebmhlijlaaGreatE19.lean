/- Joined. -/
import Derived.Test.YtkidaebmhlijlaaGreatE16
import Derived.Test.YtkidaebmhlijlaaGreatE18
set_option linter.unusedVariables false
set_option linter.unusedSimpArgs false
set_option linter.unusedSectionVars false
set_option maxHeartbeats 16000000
set_option maxRecDepth 100000
namespace Go.Proofs.YtkidaebmhlijlaaGreat
open Go.RowKit
def qBl(t:TypeId)(n0:Nat)(cs:Array Value)(w:World)(v:Value):Prop:=∃b,v=ptq b 0/\n0<=b/\Blk w b t cs
def zVS(R C:Int)(M:List (List Int))(w:World)(v:Value):Prop:=∃u,v= .tuple #[u,niq 0]/\zAQ w u R C M
theorem zO2(R C:Int)(M:List (List Int)):zAj (zVS R C M):=fun _ _ _ e ⟨u,a,b⟩=>⟨u,a,b.I e⟩
end Go.Proofs.YtkidaebmhlijlaaGreat
