/- Joined. -/
import Derived.Test.YtniiekppgdkknaaGreatM12
import Derived.Test.YtniiekppgdkknaaGreatM15
set_option linter.unusedVariables false
set_option linter.unusedSimpArgs false
set_option linter.unusedSectionVars false
set_option maxHeartbeats 16000000
set_option maxRecDepth 100000
namespace Go.Proofs.YtniiekppgdkknaaGreat
open Go.RowKit
def zXa(n k:Nat):List Nat:=(List.range n).take k++(List.range n).drop (k+1)
def lap(n:Nat)(M:List (List Int))(j:Nat):Int:=yZ j fun t=>sg1 t*(ent M 0 t*det n (mnr (ent M) 0 t))
end Go.Proofs.YtniiekppgdkknaaGreat
