/- A part of the proof, no condition: the sorting of Retract. -/
import Derived.Test.YtpfogalbnijcoaaGreatRuH
set_option linter.all false
namespace Go.Proofs.YtpfogalbnijcoaaGreat
open Go Go.Ev
variable{Q:IV->Prop}{k0 k1 k2 k3 k4 k5:List IV->Prop}
end Go.Proofs.YtpfogalbnijcoaaGreat
