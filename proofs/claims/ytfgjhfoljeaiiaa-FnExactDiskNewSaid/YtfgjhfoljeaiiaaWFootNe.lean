/- Words of the printed texts: those that this claim's texts come to, out of the print of the kit's printer. Conditions: as each theorem states. -/
import Derived.Test.YtfgjhfoljeaiiaaWN
namespace Go.Proofs.YtfgjhfoljeaiiaaW.PrintWords
open Go.RowKit
end Go.Proofs.YtfgjhfoljeaiiaaW.PrintWords
