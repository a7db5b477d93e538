import Derived.Test.YtgipbhfblmblcaaLatLaws
import Derived.Test.YtgipbhfblmblcaaPRec2
set_option maxHeartbeats 8000000
set_option linter.unusedSimpArgs false
set_option linter.unusedVariables false
set_option maxRecDepth 100000
namespace Go.Proofs.Ytgipbhfblmblcaa
open Go Go.Proofs.Ytgipbhfblmblcaa.AM
end Go.Proofs.Ytgipbhfblmblcaa
