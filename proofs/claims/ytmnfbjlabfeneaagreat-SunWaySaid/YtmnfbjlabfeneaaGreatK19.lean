/- W_All -/
import Derived.Test.YtmnfbjlabfeneaaGreatK18
namespace Go.Proofs.YtmnfbjlabfeneaaGreat
open Go Go.Am Go.Sh
end Go.Proofs.YtmnfbjlabfeneaaGreat
