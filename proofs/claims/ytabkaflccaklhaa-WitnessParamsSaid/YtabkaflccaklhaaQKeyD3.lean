/- the reference's Fold: contracts. -/
import Derived.Test.YtabkaflccaklhaaQKeyA
import Derived.Test.YtabkaflccaklhaaQRowR
set_option linter.unusedSimpArgs false
set_option linter.unusedVariables false
namespace Go.Proofs.Ytabkaflccaklhaa
open Go.RowKit
open Go.Qk hiding rotr b4
set_option maxHeartbeats 1000000
set_option maxRecDepth 100000
end Go.Proofs.Ytabkaflccaklhaa
