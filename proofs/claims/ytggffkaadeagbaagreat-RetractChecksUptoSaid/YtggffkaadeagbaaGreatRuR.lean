/- A part of the proof, no condition: comparisons are orders; memories behind Retract. -/
import Derived.Test.YtggffkaadeagbaaGreatRuH
import Derived.Test.YtggffkaadeagbaaGreatRuN
import Derived.Test.YtggffkaadeagbaaGreatRuQ
set_option linter.all false
namespace Go.Proofs.YtggffkaadeagbaaGreat
open Go Go.Ev
variable{Q:IV→Prop}{k0 k1 k2 k3 k4 k5:List IV→Prop}
end Go.Proofs.YtggffkaadeagbaaGreat
namespace Go.Proofs.YtggffkaadeagbaaGreat
open Go Go.Ev
end Go.Proofs.YtggffkaadeagbaaGreat
namespace Go.Proofs.YtggffkaadeagbaaGreat
open Go Go.Ev
end Go.Proofs.YtggffkaadeagbaaGreat
