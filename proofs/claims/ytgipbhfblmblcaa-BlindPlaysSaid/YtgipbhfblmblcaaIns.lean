import Derived.Test.YtgipbhfblmblcaaRec2
import Derived.Test.YtgipbhfblmblcaaAmB
import Derived.Test.YtgipbhfblmblcaaPIns
set_option maxHeartbeats 8000000
set_option linter.unusedSimpArgs false
set_option linter.unusedVariables false
set_option maxRecDepth 100000
namespace Go.Proofs.Ytgipbhfblmblcaa
open Go Go.Proofs.Ytgipbhfblmblcaa.AM

end Go.Proofs.Ytgipbhfblmblcaa
