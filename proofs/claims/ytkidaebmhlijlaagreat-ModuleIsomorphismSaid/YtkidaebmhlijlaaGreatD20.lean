/- Joined. -/
import Derived.Test.YtkidaebmhlijlaaGreatD17
import Derived.Test.YtkidaebmhlijlaaGreatD18
set_option linter.unusedVariables false
set_option linter.unusedSimpArgs false
set_option linter.unusedSectionVars false
set_option maxHeartbeats 16000000
set_option maxRecDepth 100000
namespace Go.Proofs.YtkidaebmhlijlaaGreat
open Go.RowKit
def zZs(t:TypeId)(n0:Nat)(cs:Array Value)(w:World)(v:Value):Prop:=∃b,v=ptq b 0/\n0<=b/\Blk w b t cs
theorem zQU(t:TypeId)(n0:Nat)(cs:Array Value):zAK (zZs t n0 cs):=fun _ _ _ e ⟨b,h1,h2,h3⟩=>⟨b,h1,h2,h3.below e⟩
def zUU(R C:Int)(M:List (List Int))(w:World)(v:Value):Prop:=∃u,v= .tuple #[u,niq 0]/\zAC w u R C M
theorem zOB(R C:Int)(M:List (List Int)):zAK (zUU R C M):=fun _ _ _ e ⟨u,h1,h2⟩=>⟨u,h1,h2.below e⟩
end Go.Proofs.YtkidaebmhlijlaaGreat
