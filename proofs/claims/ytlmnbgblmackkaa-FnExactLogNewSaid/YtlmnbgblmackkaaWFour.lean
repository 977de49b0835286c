/- Words of the printed texts: those that this claim's texts come to, out of the print of the kit's printer. Conditions: as each theorem states. -/
import Derived.Test.YtlmnbgblmackkaaWTab
namespace Go.Proofs.YtlmnbgblmackkaaW.PrintLast
end Go.Proofs.YtlmnbgblmackkaaW.PrintLast
