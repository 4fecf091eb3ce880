/- the reference's Climb: contracts. -/
import Derived.Test.YtabkaflccaklhaaQKeyA
import Derived.Test.YtabkaflccaklhaaQRowR
set_option linter.unusedSimpArgs false
set_option linter.unusedVariables false
namespace Go.Proofs.Ytabkaflccaklhaa
open Go.RowKit
open Go.Qk hiding rotr b4
set_option maxHeartbeats 1000000
set_option maxRecDepth 100000
theorem drop_step_ (xs : List IdK) (k : Nat) (h : k < xs.length) : xs.drop k = xs.getD k [] :: xs.drop (k + 1) := by
  rw [List.drop_eq_getElem_cons h]
  simp [h]
end Go.Proofs.Ytabkaflccaklhaa
