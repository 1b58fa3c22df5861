/- W_All -/
import Derived.Test.YtbknppciefodiaaGreatK18
namespace Go.Proofs.YtbknppciefodiaaGreat
open Go Go.Am Go.Sh
end Go.Proofs.YtbknppciefodiaaGreat
