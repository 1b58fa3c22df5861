/- W_Alld W_All -/
import Derived.Test.YtbknppciefodiaaGreatK17
namespace Go.Proofs.YtbknppciefodiaaGreat
open Go Go.Am Go.Sh
end Go.Proofs.YtbknppciefodiaaGreat
namespace Go.Proofs.YtbknppciefodiaaGreat
open Go Go.Am Go.Sh
end Go.Proofs.YtbknppciefodiaaGreat
