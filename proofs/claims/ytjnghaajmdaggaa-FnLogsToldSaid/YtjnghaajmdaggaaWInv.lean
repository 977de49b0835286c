/- Words of the printed texts: those that this claim's texts come to, out of the print of the kit's printer. Conditions: as each theorem states. -/
import Derived.Test.YtjnghaajmdaggaaWTab
namespace Go.Proofs.YtjnghaajmdaggaaW.PrintLast
end Go.Proofs.YtjnghaajmdaggaaW.PrintLast
