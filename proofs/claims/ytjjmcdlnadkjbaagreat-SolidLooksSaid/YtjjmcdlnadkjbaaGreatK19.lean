/- W_All -/
import Derived.Test.YtjjmcdlnadkjbaaGreatK18
namespace Go.Proofs.YtjjmcdlnadkjbaaGreat
open Go Go.Am Go.Sh
end Go.Proofs.YtjjmcdlnadkjbaaGreat
