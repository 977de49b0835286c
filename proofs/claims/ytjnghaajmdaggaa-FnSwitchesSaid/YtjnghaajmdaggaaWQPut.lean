/- Words of the printed texts: those that this claim's texts come to, out of the print of the kit's printer. Conditions: as each theorem states. -/
import Derived.Test.YtjnghaajmdaggaaWWords
import Derived.Test.YtjnghaajmdaggaaWLast
namespace Go.Proofs.YtjnghaajmdaggaaW.PrintWords
open Go.RowKit
end Go.Proofs.YtjnghaajmdaggaaW.PrintWords
