/- the reference's Fold: contracts. -/
import Derived.Test.YtabkaflccaklhaaGreatQKeyA
import Derived.Test.YtabkaflccaklhaaGreatQRowR
set_option linter.unusedSimpArgs false
set_option linter.unusedVariables false
namespace Go.Proofs.YtabkaflccaklhaaGreat
open Go.RowKit
open Go.Qk hiding rotr b4
set_option maxHeartbeats 1000000
set_option maxRecDepth 100000
end Go.Proofs.YtabkaflccaklhaaGreat
