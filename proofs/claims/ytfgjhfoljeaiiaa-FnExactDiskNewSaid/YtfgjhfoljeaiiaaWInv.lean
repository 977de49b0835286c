/- Words of the printed texts: those that this claim's texts come to, out of the print of the kit's printer. Conditions: as each theorem states. -/
import Derived.Test.YtfgjhfoljeaiiaaWTab
namespace Go.Proofs.YtfgjhfoljeaiiaaW.PrintLast
end Go.Proofs.YtfgjhfoljeaiiaaW.PrintLast
