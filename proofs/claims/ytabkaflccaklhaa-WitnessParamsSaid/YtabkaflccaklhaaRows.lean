/-
  No cell of these rows narrows 'for every input' (looked for: loops, veiled, ifaces, maps, wideKeys, modest, calm, conditions, laid).
  DERIVED. THE GIVEN ROWS OF THIS SEAT. 8 by the template 'for every input the law returns true; each argument reads behind the call as it read before'; 0 by the template 'total and deterministic' (their statements: YtabkaflccaklhaaTotals.lean).
  GIVEN WITH THE SEED: the statements are not yours to turn. If you find one false, say at which input.
  Laid BY PROGRAM, IN A SANDBOX (cutbox-rows.mjs): the forced cells as the released guide's own fill.sh prints them over the translation 2764cb1619f88143… (all of the seat's roots in one cut). By AI agents, Wed Nov 11 2026. No macro, syntax, notation, axiom, sorry.
-/
import Derived.Test.YtabkaflccaklhaaChecked
import GoSem.Claim
import GoSem.ClaimJoined
import GoSem.ClaimMapViews
import Derived.JoinedTies
import Derived.KernelRfl
namespace Go.Proofs.Ytabkaflccaklhaa
/- THE CELL 'sum', in the pinned program and in every row, IS THE sha256 OF THE DUMP (.gsa) THAT YtabkaflccaklhaaProg.lean LOADS. Nothing in Lean hashes anything: it is a label: what it is worth is what the hold of that sum in a sandbox is worth. -/
noncomputable def Try.pinned : Pinned := { name := "ytabkaflccaklhaa", sum := "2764cb1619f88143f964edfa2be364497074fd22cbb2b059891b2c672c82a16f", checked := Try.checked }
namespace Rows
def none {H : Type} : Left H := { results := [], args := [] }

/-- 'quitclaimlaw25.JournalScans': WHATEVER THE INPUT: true; the input reads as it did. -/
def journalScansSpec : ChangeSpec := { name := "journalScans", fn := fun _ => fun
  | [d] => { results := [.lit (.bool true)], args := [d] }
  | _ => none }
def journalScansRow : OpenClaim := { program := "ytabkaflccaklhaa", sum := "2764cb1619f88143f964edfa2be364497074fd22cbb2b059891b2c672c82a16f", func := "quitclaim/quitclaimlaw25.JournalScans", spec := "journalScans", inPlace := ["internal/abi.NoEscape", "internal/bytealg.MakeNoZero"], apart := false }
def JournalScansSaid : Prop := journalScansRow.holds Try.pinned (OpenSpec.ofChange journalScansSpec)

/-- ITS FALSE NEIGHBOUR: 'it returns false'. Refute it at one input. -/
def journalScansWrong : ChangeSpec := { name := "journalScans", fn := fun _ => fun
  | [d] => { results := [.lit (.bool false)], args := [d] }
  | _ => none }
def JournalScansWrongFalsely : Prop := journalScansRow.holds Try.pinned (OpenSpec.ofChange journalScansWrong)

/-- 'quitclaimlaw33.MergeLines': WHATEVER THE INPUT: true; the input reads as it did. -/
def mergeLinesSpec : ChangeSpec := { name := "mergeLines", fn := fun _ => fun
  | [d1, d2, d3] => { results := [.lit (.bool true)], args := [d1, d2, d3] }
  | _ => none }
def mergeLinesRow : OpenClaim := { program := "ytabkaflccaklhaa", sum := "2764cb1619f88143f964edfa2be364497074fd22cbb2b059891b2c672c82a16f", func := "quitclaim/quitclaimlaw33.MergeLines", spec := "mergeLines", inPlace := ["internal/bytealg.IndexByteString", "internal/bytealg.IndexString"], unfollowed := true, recurses := true, named := ["internal/bytealg.MaxLen"], apart := false }
def MergeLinesSaid : Prop := mergeLinesRow.holds Try.pinned (OpenSpec.ofChange mergeLinesSpec)

/-- ITS FALSE NEIGHBOUR: 'it returns false'. Refute it at one input. -/
def mergeLinesWrong : ChangeSpec := { name := "mergeLines", fn := fun _ => fun
  | [d1, d2, d3] => { results := [.lit (.bool false)], args := [d1, d2, d3] }
  | _ => none }
def MergeLinesWrongFalsely : Prop := mergeLinesRow.holds Try.pinned (OpenSpec.ofChange mergeLinesWrong)

/-- 'quitclaimlaw33.MergeSides': WHATEVER THE INPUT: true; the input reads as it did. -/
def mergeSidesSpec : ChangeSpec := { name := "mergeSides", fn := fun _ => fun
  | [d1, d2, d3] => { results := [.lit (.bool true)], args := [d1, d2, d3] }
  | _ => none }
def mergeSidesRow : OpenClaim := { program := "ytabkaflccaklhaa", sum := "2764cb1619f88143f964edfa2be364497074fd22cbb2b059891b2c672c82a16f", func := "quitclaim/quitclaimlaw33.MergeSides", spec := "mergeSides", inPlace := ["internal/bytealg.IndexByteString", "internal/bytealg.IndexString"], unfollowed := true, recurses := true, named := ["internal/bytealg.MaxLen"], apart := false }
def MergeSidesSaid : Prop := mergeSidesRow.holds Try.pinned (OpenSpec.ofChange mergeSidesSpec)

/-- ITS FALSE NEIGHBOUR: 'it returns false'. Refute it at one input. -/
def mergeSidesWrong : ChangeSpec := { name := "mergeSides", fn := fun _ => fun
  | [d1, d2, d3] => { results := [.lit (.bool false)], args := [d1, d2, d3] }
  | _ => none }
def MergeSidesWrongFalsely : Prop := mergeSidesRow.holds Try.pinned (OpenSpec.ofChange mergeSidesWrong)

/-- 'quitclaimlaw08.SignerBytes': WHATEVER THE INPUT: true; the input reads as it did. -/
def signerBytesSpec : ChangeSpec := { name := "signerBytes", fn := fun _ => fun
  | [d1, d2] => { results := [.lit (.bool true)], args := [d1, d2] }
  | _ => none }
def signerBytesRow : OpenClaim := { program := "ytabkaflccaklhaa", sum := "2764cb1619f88143f964edfa2be364497074fd22cbb2b059891b2c672c82a16f", func := "quitclaim/quitclaimlaw08.SignerBytes", spec := "signerBytes", inPlace := ["internal/abi.NoEscape", "internal/bytealg.MakeNoZero"], unfollowed := true, recurses := true, apart := false }
def SignerBytesSaid : Prop := signerBytesRow.holds Try.pinned (OpenSpec.ofChange signerBytesSpec)

/-- ITS FALSE NEIGHBOUR: 'it returns false'. Refute it at one input. -/
def signerBytesWrong : ChangeSpec := { name := "signerBytes", fn := fun _ => fun
  | [d1, d2] => { results := [.lit (.bool false)], args := [d1, d2] }
  | _ => none }
def SignerBytesWrongFalsely : Prop := signerBytesRow.holds Try.pinned (OpenSpec.ofChange signerBytesWrong)

/-- 'quitclaimlaw21.MerkleProves': WHATEVER THE INPUT: true; the input reads as it did. -/
def merkleProvesSpec : ChangeSpec := { name := "merkleProves", fn := fun _ => fun
  | [d1, d2] => { results := [.lit (.bool true)], args := [d1, d2] }
  | _ => none }
def merkleProvesRow : OpenClaim := { program := "ytabkaflccaklhaa", sum := "2764cb1619f88143f964edfa2be364497074fd22cbb2b059891b2c672c82a16f", func := "quitclaim/quitclaimlaw21.MerkleProves", spec := "merkleProves", inPlace := ["internal/bytealg.Compare", "internal/abi.NoEscape", "internal/bytealg.MakeNoZero"], unfollowed := true, recurses := true, apart := false }
def MerkleProvesSaid : Prop := merkleProvesRow.holds Try.pinned (OpenSpec.ofChange merkleProvesSpec)

/-- ITS FALSE NEIGHBOUR: 'it returns false'. Refute it at one input. -/
def merkleProvesWrong : ChangeSpec := { name := "merkleProves", fn := fun _ => fun
  | [d1, d2] => { results := [.lit (.bool false)], args := [d1, d2] }
  | _ => none }
def MerkleProvesWrongFalsely : Prop := merkleProvesRow.holds Try.pinned (OpenSpec.ofChange merkleProvesWrong)

/-- 'quitclaimlaw21.MerkleChecks': WHATEVER THE INPUT: true; the input reads as it did. -/
def merkleChecksSpec : ChangeSpec := { name := "merkleChecks", fn := fun _ => fun
  | [d1, d2, d3] => { results := [.lit (.bool true)], args := [d1, d2, d3] }
  | _ => none }
def merkleChecksRow : OpenClaim := { program := "ytabkaflccaklhaa", sum := "2764cb1619f88143f964edfa2be364497074fd22cbb2b059891b2c672c82a16f", func := "quitclaim/quitclaimlaw21.MerkleChecks", spec := "merkleChecks", inPlace := ["internal/bytealg.Compare", "internal/abi.NoEscape", "internal/bytealg.MakeNoZero"], unfollowed := true, recurses := true, apart := false }
def MerkleChecksSaid : Prop := merkleChecksRow.holds Try.pinned (OpenSpec.ofChange merkleChecksSpec)

/-- ITS FALSE NEIGHBOUR: 'it returns false'. Refute it at one input. -/
def merkleChecksWrong : ChangeSpec := { name := "merkleChecks", fn := fun _ => fun
  | [d1, d2, d3] => { results := [.lit (.bool false)], args := [d1, d2, d3] }
  | _ => none }
def MerkleChecksWrongFalsely : Prop := merkleChecksRow.holds Try.pinned (OpenSpec.ofChange merkleChecksWrong)

/-- 'quitclaimlaw21.MerkleApart': WHATEVER THE INPUT: true; the input reads as it did. -/
def merkleApartSpec : ChangeSpec := { name := "merkleApart", fn := fun _ => fun
  | [d1, d2] => { results := [.lit (.bool true)], args := [d1, d2] }
  | _ => none }
def merkleApartRow : OpenClaim := { program := "ytabkaflccaklhaa", sum := "2764cb1619f88143f964edfa2be364497074fd22cbb2b059891b2c672c82a16f", func := "quitclaim/quitclaimlaw21.MerkleApart", spec := "merkleApart", inPlace := ["internal/bytealg.Compare", "internal/abi.NoEscape", "internal/bytealg.MakeNoZero"], unfollowed := true, recurses := true, apart := false }
def MerkleApartSaid : Prop := merkleApartRow.holds Try.pinned (OpenSpec.ofChange merkleApartSpec)

/-- ITS FALSE NEIGHBOUR: 'it returns false'. Refute it at one input. -/
def merkleApartWrong : ChangeSpec := { name := "merkleApart", fn := fun _ => fun
  | [d1, d2] => { results := [.lit (.bool false)], args := [d1, d2] }
  | _ => none }
def MerkleApartWrongFalsely : Prop := merkleApartRow.holds Try.pinned (OpenSpec.ofChange merkleApartWrong)

/-- 'quitclaimlaw09.WitnessParams': WHATEVER THE INPUT: true; the input reads as it did. -/
def witnessParamsSpec : ChangeSpec := { name := "witnessParams", fn := fun _ => fun
  | [d1, d2, d3, d4] => { results := [.lit (.bool true)], args := [d1, d2, d3, d4] }
  | _ => none }
def witnessParamsRow : OpenClaim := { program := "ytabkaflccaklhaa", sum := "2764cb1619f88143f964edfa2be364497074fd22cbb2b059891b2c672c82a16f", func := "quitclaim/quitclaimlaw09.WitnessParams", spec := "witnessParams", inPlace := ["internal/abi.NoEscape", "internal/bytealg.MakeNoZero"], unfollowed := true, recurses := true, apart := false }
def WitnessParamsSaid : Prop := witnessParamsRow.holds Try.pinned (OpenSpec.ofChange witnessParamsSpec)

/-- ITS FALSE NEIGHBOUR: 'it returns false'. Refute it at one input. -/
def witnessParamsWrong : ChangeSpec := { name := "witnessParams", fn := fun _ => fun
  | [d1, d2, d3, d4] => { results := [.lit (.bool false)], args := [d1, d2, d3, d4] }
  | _ => none }
def WitnessParamsWrongFalsely : Prop := witnessParamsRow.holds Try.pinned (OpenSpec.ofChange witnessParamsWrong)

/- THE SECOND FORM. 'bulk': how many values and letters a reading holds, each counted each time it is reached (what is shared counts as often as it is met; a slice's spare places count too). A statement '..UptoSaid' is the law's where the arguments, and the package variables that the reading takes, are together of bulk at most 1048576: NARROWER than '..Said'. Prove '..Said' where nothing that the law and all that it calls make is longer than what came in: it says more and counts as full. Else prove '..UptoSaid'. A law counts once. -/
mutual
def uptoBulk {H : Type} : DataW H → Nat
  | .lit (.string bytes) => bytes.length + 1
  | .lit _ => 1
  | .nil => 1
  | .ptr d => uptoBulk d + 1
  | .slice elems spare => uptoBulkAll elems + uptoBulkAll spare + 1
  | .agg parts => uptoBulkAll parts + 1
  | .iface _ d => uptoBulk d + 1
  | .map entries => uptoBulkEntries entries + 1
  | .held _ => 1
def uptoBulkAll {H : Type} : List (DataW H) → Nat
  | [] => 0
  | d :: r => uptoBulk d + uptoBulkAll r
def uptoBulkEntries {H : Type} : List (Lit × DataW H) → Nat
  | [] => 0
  | x :: r => uptoBulkEntry x + uptoBulkEntries r
def uptoBulkEntry {H : Type} : Lit × DataW H → Nat
  | (.string bytes, d) => bytes.length + uptoBulk d + 1
  | (_, d) => uptoBulk d + 1
 end
def uptoSmall : (H : Type) → List (DataW H) → Bool := fun _ ds => decide (uptoBulkAll ds ≤ 1048576)
def OpenSpec.upto (s : _root_.Go.ChangeSpec) : _root_.Go.OpenSpec := { _root_.Go.OpenSpec.ofChange s with cond := some uptoSmall }

/-- 'quitclaimlaw25.JournalScans', WHERE WHAT IT READS IS OF BULK AT MOST 1048576: true; the input reads as it did. -/
def journalScansUptoRow : OpenClaim := { program := "ytabkaflccaklhaa", sum := "2764cb1619f88143f964edfa2be364497074fd22cbb2b059891b2c672c82a16f", func := "quitclaim/quitclaimlaw25.JournalScans", spec := "journalScans", inPlace := ["internal/abi.NoEscape", "internal/bytealg.MakeNoZero"], apart := false, narrowed := true }
def JournalScansUptoSaid : Prop := journalScansUptoRow.holds Try.pinned (OpenSpec.upto journalScansSpec)

/-- 'quitclaimlaw33.MergeLines', WHERE WHAT IT READS IS OF BULK AT MOST 1048576: true; the input reads as it did. -/
def mergeLinesUptoRow : OpenClaim := { program := "ytabkaflccaklhaa", sum := "2764cb1619f88143f964edfa2be364497074fd22cbb2b059891b2c672c82a16f", func := "quitclaim/quitclaimlaw33.MergeLines", spec := "mergeLines", inPlace := ["internal/bytealg.IndexByteString", "internal/bytealg.IndexString"], unfollowed := true, recurses := true, named := ["internal/bytealg.MaxLen"], apart := false, narrowed := true }
def MergeLinesUptoSaid : Prop := mergeLinesUptoRow.holds Try.pinned (OpenSpec.upto mergeLinesSpec)

/-- 'quitclaimlaw33.MergeSides', WHERE WHAT IT READS IS OF BULK AT MOST 1048576: true; the input reads as it did. -/
def mergeSidesUptoRow : OpenClaim := { program := "ytabkaflccaklhaa", sum := "2764cb1619f88143f964edfa2be364497074fd22cbb2b059891b2c672c82a16f", func := "quitclaim/quitclaimlaw33.MergeSides", spec := "mergeSides", inPlace := ["internal/bytealg.IndexByteString", "internal/bytealg.IndexString"], unfollowed := true, recurses := true, named := ["internal/bytealg.MaxLen"], apart := false, narrowed := true }
def MergeSidesUptoSaid : Prop := mergeSidesUptoRow.holds Try.pinned (OpenSpec.upto mergeSidesSpec)

/-- 'quitclaimlaw08.SignerBytes', WHERE WHAT IT READS IS OF BULK AT MOST 1048576: true; the input reads as it did. -/
def signerBytesUptoRow : OpenClaim := { program := "ytabkaflccaklhaa", sum := "2764cb1619f88143f964edfa2be364497074fd22cbb2b059891b2c672c82a16f", func := "quitclaim/quitclaimlaw08.SignerBytes", spec := "signerBytes", inPlace := ["internal/abi.NoEscape", "internal/bytealg.MakeNoZero"], unfollowed := true, recurses := true, apart := false, narrowed := true }
def SignerBytesUptoSaid : Prop := signerBytesUptoRow.holds Try.pinned (OpenSpec.upto signerBytesSpec)

/-- 'quitclaimlaw21.MerkleProves', WHERE WHAT IT READS IS OF BULK AT MOST 1048576: true; the input reads as it did. -/
def merkleProvesUptoRow : OpenClaim := { program := "ytabkaflccaklhaa", sum := "2764cb1619f88143f964edfa2be364497074fd22cbb2b059891b2c672c82a16f", func := "quitclaim/quitclaimlaw21.MerkleProves", spec := "merkleProves", inPlace := ["internal/bytealg.Compare", "internal/abi.NoEscape", "internal/bytealg.MakeNoZero"], unfollowed := true, recurses := true, apart := false, narrowed := true }
def MerkleProvesUptoSaid : Prop := merkleProvesUptoRow.holds Try.pinned (OpenSpec.upto merkleProvesSpec)

/-- 'quitclaimlaw21.MerkleChecks', WHERE WHAT IT READS IS OF BULK AT MOST 1048576: true; the input reads as it did. -/
def merkleChecksUptoRow : OpenClaim := { program := "ytabkaflccaklhaa", sum := "2764cb1619f88143f964edfa2be364497074fd22cbb2b059891b2c672c82a16f", func := "quitclaim/quitclaimlaw21.MerkleChecks", spec := "merkleChecks", inPlace := ["internal/bytealg.Compare", "internal/abi.NoEscape", "internal/bytealg.MakeNoZero"], unfollowed := true, recurses := true, apart := false, narrowed := true }
def MerkleChecksUptoSaid : Prop := merkleChecksUptoRow.holds Try.pinned (OpenSpec.upto merkleChecksSpec)

/-- 'quitclaimlaw21.MerkleApart', WHERE WHAT IT READS IS OF BULK AT MOST 1048576: true; the input reads as it did. -/
def merkleApartUptoRow : OpenClaim := { program := "ytabkaflccaklhaa", sum := "2764cb1619f88143f964edfa2be364497074fd22cbb2b059891b2c672c82a16f", func := "quitclaim/quitclaimlaw21.MerkleApart", spec := "merkleApart", inPlace := ["internal/bytealg.Compare", "internal/abi.NoEscape", "internal/bytealg.MakeNoZero"], unfollowed := true, recurses := true, apart := false, narrowed := true }
def MerkleApartUptoSaid : Prop := merkleApartUptoRow.holds Try.pinned (OpenSpec.upto merkleApartSpec)

/-- 'quitclaimlaw09.WitnessParams', WHERE WHAT IT READS IS OF BULK AT MOST 1048576: true; the input reads as it did. -/
def witnessParamsUptoRow : OpenClaim := { program := "ytabkaflccaklhaa", sum := "2764cb1619f88143f964edfa2be364497074fd22cbb2b059891b2c672c82a16f", func := "quitclaim/quitclaimlaw09.WitnessParams", spec := "witnessParams", inPlace := ["internal/abi.NoEscape", "internal/bytealg.MakeNoZero"], unfollowed := true, recurses := true, apart := false, narrowed := true }
def WitnessParamsUptoSaid : Prop := witnessParamsUptoRow.holds Try.pinned (OpenSpec.upto witnessParamsSpec)

end Rows
end Go.Proofs.Ytabkaflccaklhaa
