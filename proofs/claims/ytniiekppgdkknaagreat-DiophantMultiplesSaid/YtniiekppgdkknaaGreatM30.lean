/- Joined. -/
import Derived.Test.YtniiekppgdkknaaGreatM27
set_option linter.unusedVariables false
set_option linter.unusedSimpArgs false
set_option linter.unusedSectionVars false
set_option maxHeartbeats 16000000
set_option maxRecDepth 100000
namespace Go.Proofs.YtniiekppgdkknaaGreat
open Go.RowKit

end Go.Proofs.YtniiekppgdkknaaGreat
