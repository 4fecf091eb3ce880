/-
  No cell of these rows narrows 'for every input' (looked for: loops, veiled, ifaces, maps, wideKeys, modest, calm, conditions, laid).
  DERIVED. THE GIVEN ROWS OF THIS SEAT. 4 by the template 'for every input the law returns true; each argument reads behind the call as it read before'; 0 by the template 'total and deterministic' (their statements: YtabkaflccaklhaaGreatTotals.lean).
  GIVEN WITH THE SEED: the statements are not yours to turn. If you find one false, say at which input.
  Laid BY PROGRAM, IN A SANDBOX (cutbox-rows.mjs): the forced cells as the released guide's own fill.sh prints them over the translation 7fc397d636731f32… (all of the seat's roots in one cut). By AI agents, Wed Nov 11 2026. No macro, syntax, notation, axiom, sorry.
-/
import Derived.Test.YtabkaflccaklhaaGreatChecked
import GoSem.Claim
import GoSem.ClaimJoined
import GoSem.ClaimMapViews
import Derived.JoinedTies
import Derived.KernelRfl
namespace Go.Proofs.YtabkaflccaklhaaGreat
/- THE CELL 'sum', in the pinned program and in every row, IS THE sha256 OF THE DUMP (.gsa) THAT YtabkaflccaklhaaGreatProg.lean LOADS. Nothing in Lean hashes anything: it is a label: what it is worth is what the hold of that sum in a sandbox is worth. -/
noncomputable def Tryz.pinned : Pinned := { name := "ytabkaflccaklhaagreat", sum := "7fc397d636731f3275d8ff3a1520888f894cecceab24ba8309d20d32936c2010", checked := Tryz.checked }
namespace Rows
def none {H : Type} : Left H := { results := [], args := [] }

/-- 'quitclaimlaw25.JournalLogs': WHATEVER THE INPUT: true; the input reads as it did. -/
def journalLogsSpec : ChangeSpec := { name := "journalLogs", fn := fun _ => fun
  | [d1, d2, d3] => { results := [.lit (.bool true)], args := [d1, d2, d3] }
  | _ => none }
def journalLogsRow : OpenClaim := { program := "ytabkaflccaklhaagreat", sum := "7fc397d636731f3275d8ff3a1520888f894cecceab24ba8309d20d32936c2010", func := "quitclaim/quitclaimlaw25.JournalLogs", spec := "journalLogs", inPlace := ["internal/abi.NoEscape", "internal/bytealg.MakeNoZero"], unfollowed := true, recurses := true, apart := false }
def JournalLogsSaid : Prop := journalLogsRow.holds Tryz.pinned (OpenSpec.ofChange journalLogsSpec)

/-- ITS FALSE NEIGHBOUR: 'it returns false'. Refute it at one input. -/
def journalLogsWrong : ChangeSpec := { name := "journalLogs", fn := fun _ => fun
  | [d1, d2, d3] => { results := [.lit (.bool false)], args := [d1, d2, d3] }
  | _ => none }
def JournalLogsWrongFalsely : Prop := journalLogsRow.holds Tryz.pinned (OpenSpec.ofChange journalLogsWrong)

/-- 'quitclaimlaw09.WitnessOwn': WHATEVER THE INPUT: true; the input reads as it did. -/
def witnessOwnSpec : ChangeSpec := { name := "witnessOwn", fn := fun _ => fun
  | [d1, d2, d3, d4, d5] => { results := [.lit (.bool true)], args := [d1, d2, d3, d4, d5] }
  | _ => none }
def witnessOwnRow : OpenClaim := { program := "ytabkaflccaklhaagreat", sum := "7fc397d636731f3275d8ff3a1520888f894cecceab24ba8309d20d32936c2010", func := "quitclaim/quitclaimlaw09.WitnessOwn", spec := "witnessOwn", inPlace := ["internal/abi.NoEscape", "internal/bytealg.MakeNoZero"], unfollowed := true, recurses := true, apart := false }
def WitnessOwnSaid : Prop := witnessOwnRow.holds Tryz.pinned (OpenSpec.ofChange witnessOwnSpec)

/-- ITS FALSE NEIGHBOUR: 'it returns false'. Refute it at one input. -/
def witnessOwnWrong : ChangeSpec := { name := "witnessOwn", fn := fun _ => fun
  | [d1, d2, d3, d4, d5] => { results := [.lit (.bool false)], args := [d1, d2, d3, d4, d5] }
  | _ => none }
def WitnessOwnWrongFalsely : Prop := witnessOwnRow.holds Tryz.pinned (OpenSpec.ofChange witnessOwnWrong)

/-- 'quitclaimlaw09.WitnessFinds': WHATEVER THE INPUT: true; the input reads as it did. -/
def witnessFindsSpec : ChangeSpec := { name := "witnessFinds", fn := fun _ => fun
  | [d1, d2, d3, d4, d5] => { results := [.lit (.bool true)], args := [d1, d2, d3, d4, d5] }
  | _ => none }
def witnessFindsRow : OpenClaim := { program := "ytabkaflccaklhaagreat", sum := "7fc397d636731f3275d8ff3a1520888f894cecceab24ba8309d20d32936c2010", func := "quitclaim/quitclaimlaw09.WitnessFinds", spec := "witnessFinds", inPlace := ["internal/abi.NoEscape", "internal/bytealg.MakeNoZero"], unfollowed := true, recurses := true, apart := false }
def WitnessFindsSaid : Prop := witnessFindsRow.holds Tryz.pinned (OpenSpec.ofChange witnessFindsSpec)

/-- ITS FALSE NEIGHBOUR: 'it returns false'. Refute it at one input. -/
def witnessFindsWrong : ChangeSpec := { name := "witnessFinds", fn := fun _ => fun
  | [d1, d2, d3, d4, d5] => { results := [.lit (.bool false)], args := [d1, d2, d3, d4, d5] }
  | _ => none }
def WitnessFindsWrongFalsely : Prop := witnessFindsRow.holds Tryz.pinned (OpenSpec.ofChange witnessFindsWrong)

/-- 'quitclaimlaw09.WitnessHolds': WHATEVER THE INPUT: true; the input reads as it did. -/
def witnessHoldsSpec : ChangeSpec := { name := "witnessHolds", fn := fun _ => fun
  | [d1, d2, d3, d4, d5, d6, d7] => { results := [.lit (.bool true)], args := [d1, d2, d3, d4, d5, d6, d7] }
  | _ => none }
def witnessHoldsRow : OpenClaim := { program := "ytabkaflccaklhaagreat", sum := "7fc397d636731f3275d8ff3a1520888f894cecceab24ba8309d20d32936c2010", func := "quitclaim/quitclaimlaw09.WitnessHolds", spec := "witnessHolds", inPlace := ["internal/abi.NoEscape", "internal/bytealg.MakeNoZero"], unfollowed := true, recurses := true, apart := false }
def WitnessHoldsSaid : Prop := witnessHoldsRow.holds Tryz.pinned (OpenSpec.ofChange witnessHoldsSpec)

/-- ITS FALSE NEIGHBOUR: 'it returns false'. Refute it at one input. -/
def witnessHoldsWrong : ChangeSpec := { name := "witnessHolds", fn := fun _ => fun
  | [d1, d2, d3, d4, d5, d6, d7] => { results := [.lit (.bool false)], args := [d1, d2, d3, d4, d5, d6, d7] }
  | _ => none }
def WitnessHoldsWrongFalsely : Prop := witnessHoldsRow.holds Tryz.pinned (OpenSpec.ofChange witnessHoldsWrong)

/- THE SECOND FORM. 'bulk': how many values and letters a reading holds, each counted each time it is reached (what is shared counts as often as it is met; a slice's spare places count too). A statement '..UptoSaid' is the law's where the arguments, and the package variables that the reading takes, are together of bulk at most 1048576: NARROWER than '..Said'. Prove '..Said' where nothing that the law and all that it calls make is longer than what came in: it says more and counts as full. Else prove '..UptoSaid'. A law counts once. -/
mutual
def uptoBulk {H : Type} : DataW H → Nat
  | .lit (.string bytes) => bytes.length + 1
  | .lit _ => 1
  | .nil => 1
  | .ptr d => uptoBulk d + 1
  | .slice elems spare => uptoBulkAll elems + uptoBulkAll spare + 1
  | .agg parts => uptoBulkAll parts + 1
  | .iface _ d => uptoBulk d + 1
  | .map entries => uptoBulkEntries entries + 1
  | .held _ => 1
def uptoBulkAll {H : Type} : List (DataW H) → Nat
  | [] => 0
  | d :: r => uptoBulk d + uptoBulkAll r
def uptoBulkEntries {H : Type} : List (Lit × DataW H) → Nat
  | [] => 0
  | x :: r => uptoBulkEntry x + uptoBulkEntries r
def uptoBulkEntry {H : Type} : Lit × DataW H → Nat
  | (.string bytes, d) => bytes.length + uptoBulk d + 1
  | (_, d) => uptoBulk d + 1
 end
def uptoSmall : (H : Type) → List (DataW H) → Bool := fun _ ds => decide (uptoBulkAll ds ≤ 1048576)
def OpenSpec.upto (s : _root_.Go.ChangeSpec) : _root_.Go.OpenSpec := { _root_.Go.OpenSpec.ofChange s with cond := some uptoSmall }

/-- 'quitclaimlaw25.JournalLogs', WHERE WHAT IT READS IS OF BULK AT MOST 1048576: true; the input reads as it did. -/
def journalLogsUptoRow : OpenClaim := { program := "ytabkaflccaklhaagreat", sum := "7fc397d636731f3275d8ff3a1520888f894cecceab24ba8309d20d32936c2010", func := "quitclaim/quitclaimlaw25.JournalLogs", spec := "journalLogs", inPlace := ["internal/abi.NoEscape", "internal/bytealg.MakeNoZero"], unfollowed := true, recurses := true, apart := false, narrowed := true }
def JournalLogsUptoSaid : Prop := journalLogsUptoRow.holds Tryz.pinned (OpenSpec.upto journalLogsSpec)

/-- 'quitclaimlaw09.WitnessOwn', WHERE WHAT IT READS IS OF BULK AT MOST 1048576: true; the input reads as it did. -/
def witnessOwnUptoRow : OpenClaim := { program := "ytabkaflccaklhaagreat", sum := "7fc397d636731f3275d8ff3a1520888f894cecceab24ba8309d20d32936c2010", func := "quitclaim/quitclaimlaw09.WitnessOwn", spec := "witnessOwn", inPlace := ["internal/abi.NoEscape", "internal/bytealg.MakeNoZero"], unfollowed := true, recurses := true, apart := false, narrowed := true }
def WitnessOwnUptoSaid : Prop := witnessOwnUptoRow.holds Tryz.pinned (OpenSpec.upto witnessOwnSpec)

/-- 'quitclaimlaw09.WitnessFinds', WHERE WHAT IT READS IS OF BULK AT MOST 1048576: true; the input reads as it did. -/
def witnessFindsUptoRow : OpenClaim := { program := "ytabkaflccaklhaagreat", sum := "7fc397d636731f3275d8ff3a1520888f894cecceab24ba8309d20d32936c2010", func := "quitclaim/quitclaimlaw09.WitnessFinds", spec := "witnessFinds", inPlace := ["internal/abi.NoEscape", "internal/bytealg.MakeNoZero"], unfollowed := true, recurses := true, apart := false, narrowed := true }
def WitnessFindsUptoSaid : Prop := witnessFindsUptoRow.holds Tryz.pinned (OpenSpec.upto witnessFindsSpec)

/-- 'quitclaimlaw09.WitnessHolds', WHERE WHAT IT READS IS OF BULK AT MOST 1048576: true; the input reads as it did. -/
def witnessHoldsUptoRow : OpenClaim := { program := "ytabkaflccaklhaagreat", sum := "7fc397d636731f3275d8ff3a1520888f894cecceab24ba8309d20d32936c2010", func := "quitclaim/quitclaimlaw09.WitnessHolds", spec := "witnessHolds", inPlace := ["internal/abi.NoEscape", "internal/bytealg.MakeNoZero"], unfollowed := true, recurses := true, apart := false, narrowed := true }
def WitnessHoldsUptoSaid : Prop := witnessHoldsUptoRow.holds Tryz.pinned (OpenSpec.upto witnessHoldsSpec)

end Rows
end Go.Proofs.YtabkaflccaklhaaGreat
