/- W_All -/
import Derived.Test.YtgkialgkmjnfbaaK19
namespace Go.Proofs.Ytgkialgkmjnfbaa
open Go Go.Am Go.Sh
end Go.Proofs.Ytgkialgkmjnfbaa
