/-
  No cell of these rows narrows 'for every input' (looked for: loops, veiled, ifaces, maps, wideKeys, modest, calm, conditions, laid).
  DERIVED. THE GIVEN ROWS OF THIS SEAT. 16 by the template 'for every input the law returns true; each argument reads behind the call as it read before'; 0 by the template 'total and deterministic' (their statements: YtkibibgbmkejjaaTotals.lean).
  GIVEN WITH THE SEED: the statements are not yours to turn. If you find one false, say at which input.
  Laid BY PROGRAM, IN A SANDBOX (cutbox-rows.mjs): the forced cells as the released guide's own fill.sh prints them over the translation d1ac3abab647b0f7… (all of the seat's roots in one cut). By AI agents, Wed Nov 11 2026. No macro, syntax, notation, axiom, sorry.
-/
import Derived.Test.YtkibibgbmkejjaaChecked
import GoSem.Claim
import GoSem.ClaimJoined
import GoSem.ClaimMapViews
import Derived.JoinedTies
import Derived.KernelRfl
namespace Go.Proofs.Ytkibibgbmkejjaa
/- THE CELL 'sum', in the pinned program and in every row, IS THE sha256 OF THE DUMP (.gsa) THAT YtkibibgbmkejjaaProg.lean LOADS. Nothing in Lean hashes anything: it is a label: what it is worth is what the hold of that sum in a sandbox is worth. -/
noncomputable def Try.pinned : Pinned := { name := "ytkibibgbmkejjaa", sum := "d1ac3abab647b0f72ac033b1430b40d2bdb52013245b006d45df04e70dd3189f", checked := Try.checked }
namespace Rows
def none {H : Type} : Left H := { results := [], args := [] }

/-- 'quitclaimlaw04.IdTexts': WHATEVER THE INPUT: true; the input reads as it did. -/
def idTextsSpec : ChangeSpec := { name := "idTexts", fn := fun _ => fun
  | [d1, d2, d3, d4] => { results := [.lit (.bool true)], args := [d1, d2, d3, d4] }
  | _ => none }
def idTextsRow : OpenClaim := { program := "ytkibibgbmkejjaa", sum := "d1ac3abab647b0f72ac033b1430b40d2bdb52013245b006d45df04e70dd3189f", func := "quitclaim/quitclaimlaw04.IdTexts", spec := "idTexts", inPlace := ["internal/bytealg.Compare", "internal/bytealg.IndexByteString"], unfollowed := true, recurses := true, apart := false }
def IdTextsSaid : Prop := idTextsRow.holds Try.pinned (OpenSpec.ofChange idTextsSpec)

/-- ITS FALSE NEIGHBOUR: 'it returns false'. Refute it at one input. -/
def idTextsWrong : ChangeSpec := { name := "idTexts", fn := fun _ => fun
  | [d1, d2, d3, d4] => { results := [.lit (.bool false)], args := [d1, d2, d3, d4] }
  | _ => none }
def IdTextsWrongFalsely : Prop := idTextsRow.holds Try.pinned (OpenSpec.ofChange idTextsWrong)

/-- 'quitclaimlaw04.IdSets': WHATEVER THE INPUT: true; the input reads as it did. -/
def idSetsSpec : ChangeSpec := { name := "idSets", fn := fun _ => fun
  | [d1, d2] => { results := [.lit (.bool true)], args := [d1, d2] }
  | _ => none }
def idSetsRow : OpenClaim := { program := "ytkibibgbmkejjaa", sum := "d1ac3abab647b0f72ac033b1430b40d2bdb52013245b006d45df04e70dd3189f", func := "quitclaim/quitclaimlaw04.IdSets", spec := "idSets", inPlace := ["internal/bytealg.Compare"], unfollowed := true, recurses := true, apart := false }
def IdSetsSaid : Prop := idSetsRow.holds Try.pinned (OpenSpec.ofChange idSetsSpec)

/-- ITS FALSE NEIGHBOUR: 'it returns false'. Refute it at one input. -/
def idSetsWrong : ChangeSpec := { name := "idSets", fn := fun _ => fun
  | [d1, d2] => { results := [.lit (.bool false)], args := [d1, d2] }
  | _ => none }
def IdSetsWrongFalsely : Prop := idSetsRow.holds Try.pinned (OpenSpec.ofChange idSetsWrong)

/-- 'quitclaimlaw03.TagSums': WHATEVER THE INPUT: true; the input reads as it did. -/
def tagSumsSpec : ChangeSpec := { name := "tagSums", fn := fun _ => fun
  | [d1, d2] => { results := [.lit (.bool true)], args := [d1, d2] }
  | _ => none }
def tagSumsRow : OpenClaim := { program := "ytkibibgbmkejjaa", sum := "d1ac3abab647b0f72ac033b1430b40d2bdb52013245b006d45df04e70dd3189f", func := "quitclaim/quitclaimlaw03.TagSums", spec := "tagSums", inPlace := ["internal/abi.NoEscape", "internal/bytealg.MakeNoZero"], apart := false }
def TagSumsSaid : Prop := tagSumsRow.holds Try.pinned (OpenSpec.ofChange tagSumsSpec)

/-- ITS FALSE NEIGHBOUR: 'it returns false'. Refute it at one input. -/
def tagSumsWrong : ChangeSpec := { name := "tagSums", fn := fun _ => fun
  | [d1, d2] => { results := [.lit (.bool false)], args := [d1, d2] }
  | _ => none }
def TagSumsWrongFalsely : Prop := tagSumsRow.holds Try.pinned (OpenSpec.ofChange tagSumsWrong)

/-- 'quitclaimlaw03.TagRows': WHATEVER THE INPUT: true; the input reads as it did. -/
def tagRowsSpec : ChangeSpec := { name := "tagRows", fn := fun _ => fun
  | [d1, d2, d3, d4] => { results := [.lit (.bool true)], args := [d1, d2, d3, d4] }
  | _ => none }
def tagRowsRow : OpenClaim := { program := "ytkibibgbmkejjaa", sum := "d1ac3abab647b0f72ac033b1430b40d2bdb52013245b006d45df04e70dd3189f", func := "quitclaim/quitclaimlaw03.TagRows", spec := "tagRows", inPlace := ["internal/abi.NoEscape", "internal/bytealg.MakeNoZero"], apart := false }
def TagRowsSaid : Prop := tagRowsRow.holds Try.pinned (OpenSpec.ofChange tagRowsSpec)

/-- ITS FALSE NEIGHBOUR: 'it returns false'. Refute it at one input. -/
def tagRowsWrong : ChangeSpec := { name := "tagRows", fn := fun _ => fun
  | [d1, d2, d3, d4] => { results := [.lit (.bool false)], args := [d1, d2, d3, d4] }
  | _ => none }
def TagRowsWrongFalsely : Prop := tagRowsRow.holds Try.pinned (OpenSpec.ofChange tagRowsWrong)

/-- 'quitclaimlaw06.LamportSecrets': WHATEVER THE INPUT: true; the input reads as it did. -/
def lamportSecretsSpec : ChangeSpec := { name := "lamportSecrets", fn := fun _ => fun
  | [d1, d2, d3, d4, d5] => { results := [.lit (.bool true)], args := [d1, d2, d3, d4, d5] }
  | _ => none }
def lamportSecretsRow : OpenClaim := { program := "ytkibibgbmkejjaa", sum := "d1ac3abab647b0f72ac033b1430b40d2bdb52013245b006d45df04e70dd3189f", func := "quitclaim/quitclaimlaw06.LamportSecrets", spec := "lamportSecrets", inPlace := ["internal/abi.NoEscape", "internal/bytealg.MakeNoZero"], apart := false }
def LamportSecretsSaid : Prop := lamportSecretsRow.holds Try.pinned (OpenSpec.ofChange lamportSecretsSpec)

/-- ITS FALSE NEIGHBOUR: 'it returns false'. Refute it at one input. -/
def lamportSecretsWrong : ChangeSpec := { name := "lamportSecrets", fn := fun _ => fun
  | [d1, d2, d3, d4, d5] => { results := [.lit (.bool false)], args := [d1, d2, d3, d4, d5] }
  | _ => none }
def LamportSecretsWrongFalsely : Prop := lamportSecretsRow.holds Try.pinned (OpenSpec.ofChange lamportSecretsWrong)

/-- 'quitclaimlaw06.LamportLeaves': WHATEVER THE INPUT: true; the input reads as it did. -/
def lamportLeavesSpec : ChangeSpec := { name := "lamportLeaves", fn := fun _ => fun
  | [d1, d2, d3] => { results := [.lit (.bool true)], args := [d1, d2, d3] }
  | _ => none }
def lamportLeavesRow : OpenClaim := { program := "ytkibibgbmkejjaa", sum := "d1ac3abab647b0f72ac033b1430b40d2bdb52013245b006d45df04e70dd3189f", func := "quitclaim/quitclaimlaw06.LamportLeaves", spec := "lamportLeaves", inPlace := ["internal/abi.NoEscape", "internal/bytealg.MakeNoZero"], unfollowed := true, recurses := true, apart := false }
def LamportLeavesSaid : Prop := lamportLeavesRow.holds Try.pinned (OpenSpec.ofChange lamportLeavesSpec)

/-- ITS FALSE NEIGHBOUR: 'it returns false'. Refute it at one input. -/
def lamportLeavesWrong : ChangeSpec := { name := "lamportLeaves", fn := fun _ => fun
  | [d1, d2, d3] => { results := [.lit (.bool false)], args := [d1, d2, d3] }
  | _ => none }
def LamportLeavesWrongFalsely : Prop := lamportLeavesRow.holds Try.pinned (OpenSpec.ofChange lamportLeavesWrong)

/-- 'quitclaimlaw06.LamportRecovers': WHATEVER THE INPUT: true; the input reads as it did. -/
def lamportRecoversSpec : ChangeSpec := { name := "lamportRecovers", fn := fun _ => fun
  | [d1, d2, d3] => { results := [.lit (.bool true)], args := [d1, d2, d3] }
  | _ => none }
def lamportRecoversRow : OpenClaim := { program := "ytkibibgbmkejjaa", sum := "d1ac3abab647b0f72ac033b1430b40d2bdb52013245b006d45df04e70dd3189f", func := "quitclaim/quitclaimlaw06.LamportRecovers", spec := "lamportRecovers", inPlace := ["internal/abi.NoEscape", "internal/bytealg.MakeNoZero"], unfollowed := true, recurses := true, apart := false }
def LamportRecoversSaid : Prop := lamportRecoversRow.holds Try.pinned (OpenSpec.ofChange lamportRecoversSpec)

/-- ITS FALSE NEIGHBOUR: 'it returns false'. Refute it at one input. -/
def lamportRecoversWrong : ChangeSpec := { name := "lamportRecovers", fn := fun _ => fun
  | [d1, d2, d3] => { results := [.lit (.bool false)], args := [d1, d2, d3] }
  | _ => none }
def LamportRecoversWrongFalsely : Prop := lamportRecoversRow.holds Try.pinned (OpenSpec.ofChange lamportRecoversWrong)

/-- 'quitclaimlaw06.LamportSigns': WHATEVER THE INPUT: true; the input reads as it did. -/
def lamportSignsSpec : ChangeSpec := { name := "lamportSigns", fn := fun _ => fun
  | [d1, d2, d3, d4] => { results := [.lit (.bool true)], args := [d1, d2, d3, d4] }
  | _ => none }
def lamportSignsRow : OpenClaim := { program := "ytkibibgbmkejjaa", sum := "d1ac3abab647b0f72ac033b1430b40d2bdb52013245b006d45df04e70dd3189f", func := "quitclaim/quitclaimlaw06.LamportSigns", spec := "lamportSigns", inPlace := ["internal/abi.NoEscape", "internal/bytealg.MakeNoZero"], unfollowed := true, recurses := true, apart := false }
def LamportSignsSaid : Prop := lamportSignsRow.holds Try.pinned (OpenSpec.ofChange lamportSignsSpec)

/-- ITS FALSE NEIGHBOUR: 'it returns false'. Refute it at one input. -/
def lamportSignsWrong : ChangeSpec := { name := "lamportSigns", fn := fun _ => fun
  | [d1, d2, d3, d4] => { results := [.lit (.bool false)], args := [d1, d2, d3, d4] }
  | _ => none }
def LamportSignsWrongFalsely : Prop := lamportSignsRow.holds Try.pinned (OpenSpec.ofChange lamportSignsWrong)

/-- 'quitclaimlaw07.KeytreeFolds': WHATEVER THE INPUT: true; the input reads as it did. -/
def keytreeFoldsSpec : ChangeSpec := { name := "keytreeFolds", fn := fun _ => fun
  | [d1, d2, d3, d4] => { results := [.lit (.bool true)], args := [d1, d2, d3, d4] }
  | _ => none }
def keytreeFoldsRow : OpenClaim := { program := "ytkibibgbmkejjaa", sum := "d1ac3abab647b0f72ac033b1430b40d2bdb52013245b006d45df04e70dd3189f", func := "quitclaim/quitclaimlaw07.KeytreeFolds", spec := "keytreeFolds", inPlace := ["internal/abi.NoEscape", "internal/bytealg.MakeNoZero"], recurses := true, apart := false }
def KeytreeFoldsSaid : Prop := keytreeFoldsRow.holds Try.pinned (OpenSpec.ofChange keytreeFoldsSpec)

/-- ITS FALSE NEIGHBOUR: 'it returns false'. Refute it at one input. -/
def keytreeFoldsWrong : ChangeSpec := { name := "keytreeFolds", fn := fun _ => fun
  | [d1, d2, d3, d4] => { results := [.lit (.bool false)], args := [d1, d2, d3, d4] }
  | _ => none }
def KeytreeFoldsWrongFalsely : Prop := keytreeFoldsRow.holds Try.pinned (OpenSpec.ofChange keytreeFoldsWrong)

/-- 'quitclaimlaw07.KeytreeKeys': WHATEVER THE INPUT: true; the input reads as it did. -/
def keytreeKeysSpec : ChangeSpec := { name := "keytreeKeys", fn := fun _ => fun
  | [d1, d2, d3] => { results := [.lit (.bool true)], args := [d1, d2, d3] }
  | _ => none }
def keytreeKeysRow : OpenClaim := { program := "ytkibibgbmkejjaa", sum := "d1ac3abab647b0f72ac033b1430b40d2bdb52013245b006d45df04e70dd3189f", func := "quitclaim/quitclaimlaw07.KeytreeKeys", spec := "keytreeKeys", inPlace := ["internal/abi.NoEscape", "internal/bytealg.MakeNoZero"], unfollowed := true, recurses := true, apart := false }
def KeytreeKeysSaid : Prop := keytreeKeysRow.holds Try.pinned (OpenSpec.ofChange keytreeKeysSpec)

/-- ITS FALSE NEIGHBOUR: 'it returns false'. Refute it at one input. -/
def keytreeKeysWrong : ChangeSpec := { name := "keytreeKeys", fn := fun _ => fun
  | [d1, d2, d3] => { results := [.lit (.bool false)], args := [d1, d2, d3] }
  | _ => none }
def KeytreeKeysWrongFalsely : Prop := keytreeKeysRow.holds Try.pinned (OpenSpec.ofChange keytreeKeysWrong)

/-- 'quitclaimlaw07.KeytreeWays': WHATEVER THE INPUT: true; the input reads as it did. -/
def keytreeWaysSpec : ChangeSpec := { name := "keytreeWays", fn := fun _ => fun
  | [d1, d2, d3] => { results := [.lit (.bool true)], args := [d1, d2, d3] }
  | _ => none }
def keytreeWaysRow : OpenClaim := { program := "ytkibibgbmkejjaa", sum := "d1ac3abab647b0f72ac033b1430b40d2bdb52013245b006d45df04e70dd3189f", func := "quitclaim/quitclaimlaw07.KeytreeWays", spec := "keytreeWays", inPlace := ["internal/abi.NoEscape", "internal/bytealg.MakeNoZero"], unfollowed := true, recurses := true, apart := false }
def KeytreeWaysSaid : Prop := keytreeWaysRow.holds Try.pinned (OpenSpec.ofChange keytreeWaysSpec)

/-- ITS FALSE NEIGHBOUR: 'it returns false'. Refute it at one input. -/
def keytreeWaysWrong : ChangeSpec := { name := "keytreeWays", fn := fun _ => fun
  | [d1, d2, d3] => { results := [.lit (.bool false)], args := [d1, d2, d3] }
  | _ => none }
def KeytreeWaysWrongFalsely : Prop := keytreeWaysRow.holds Try.pinned (OpenSpec.ofChange keytreeWaysWrong)

/-- 'quitclaimlaw21.MerkleSums': WHATEVER THE INPUT: true; the input reads as it did. -/
def merkleSumsSpec : ChangeSpec := { name := "merkleSums", fn := fun _ => fun
  | [d1, d2, d3] => { results := [.lit (.bool true)], args := [d1, d2, d3] }
  | _ => none }
def merkleSumsRow : OpenClaim := { program := "ytkibibgbmkejjaa", sum := "d1ac3abab647b0f72ac033b1430b40d2bdb52013245b006d45df04e70dd3189f", func := "quitclaim/quitclaimlaw21.MerkleSums", spec := "merkleSums", inPlace := ["internal/bytealg.Compare", "internal/abi.NoEscape", "internal/bytealg.MakeNoZero"], unfollowed := true, recurses := true, apart := false }
def MerkleSumsSaid : Prop := merkleSumsRow.holds Try.pinned (OpenSpec.ofChange merkleSumsSpec)

/-- ITS FALSE NEIGHBOUR: 'it returns false'. Refute it at one input. -/
def merkleSumsWrong : ChangeSpec := { name := "merkleSums", fn := fun _ => fun
  | [d1, d2, d3] => { results := [.lit (.bool false)], args := [d1, d2, d3] }
  | _ => none }
def MerkleSumsWrongFalsely : Prop := merkleSumsRow.holds Try.pinned (OpenSpec.ofChange merkleSumsWrong)

/-- 'quitclaimlaw21.MerkleProves': WHATEVER THE INPUT: true; the input reads as it did. -/
def merkleProvesSpec : ChangeSpec := { name := "merkleProves", fn := fun _ => fun
  | [d1, d2] => { results := [.lit (.bool true)], args := [d1, d2] }
  | _ => none }
def merkleProvesRow : OpenClaim := { program := "ytkibibgbmkejjaa", sum := "d1ac3abab647b0f72ac033b1430b40d2bdb52013245b006d45df04e70dd3189f", func := "quitclaim/quitclaimlaw21.MerkleProves", spec := "merkleProves", inPlace := ["internal/bytealg.Compare", "internal/abi.NoEscape", "internal/bytealg.MakeNoZero"], unfollowed := true, recurses := true, apart := false }
def MerkleProvesSaid : Prop := merkleProvesRow.holds Try.pinned (OpenSpec.ofChange merkleProvesSpec)

/-- ITS FALSE NEIGHBOUR: 'it returns false'. Refute it at one input. -/
def merkleProvesWrong : ChangeSpec := { name := "merkleProves", fn := fun _ => fun
  | [d1, d2] => { results := [.lit (.bool false)], args := [d1, d2] }
  | _ => none }
def MerkleProvesWrongFalsely : Prop := merkleProvesRow.holds Try.pinned (OpenSpec.ofChange merkleProvesWrong)

/-- 'quitclaimlaw21.MerkleChecks': WHATEVER THE INPUT: true; the input reads as it did. -/
def merkleChecksSpec : ChangeSpec := { name := "merkleChecks", fn := fun _ => fun
  | [d1, d2, d3] => { results := [.lit (.bool true)], args := [d1, d2, d3] }
  | _ => none }
def merkleChecksRow : OpenClaim := { program := "ytkibibgbmkejjaa", sum := "d1ac3abab647b0f72ac033b1430b40d2bdb52013245b006d45df04e70dd3189f", func := "quitclaim/quitclaimlaw21.MerkleChecks", spec := "merkleChecks", inPlace := ["internal/bytealg.Compare", "internal/abi.NoEscape", "internal/bytealg.MakeNoZero"], unfollowed := true, recurses := true, apart := false }
def MerkleChecksSaid : Prop := merkleChecksRow.holds Try.pinned (OpenSpec.ofChange merkleChecksSpec)

/-- ITS FALSE NEIGHBOUR: 'it returns false'. Refute it at one input. -/
def merkleChecksWrong : ChangeSpec := { name := "merkleChecks", fn := fun _ => fun
  | [d1, d2, d3] => { results := [.lit (.bool false)], args := [d1, d2, d3] }
  | _ => none }
def MerkleChecksWrongFalsely : Prop := merkleChecksRow.holds Try.pinned (OpenSpec.ofChange merkleChecksWrong)

/-- 'quitclaimlaw21.MerkleApart': WHATEVER THE INPUT: true; the input reads as it did. -/
def merkleApartSpec : ChangeSpec := { name := "merkleApart", fn := fun _ => fun
  | [d1, d2] => { results := [.lit (.bool true)], args := [d1, d2] }
  | _ => none }
def merkleApartRow : OpenClaim := { program := "ytkibibgbmkejjaa", sum := "d1ac3abab647b0f72ac033b1430b40d2bdb52013245b006d45df04e70dd3189f", func := "quitclaim/quitclaimlaw21.MerkleApart", spec := "merkleApart", inPlace := ["internal/bytealg.Compare", "internal/abi.NoEscape", "internal/bytealg.MakeNoZero"], unfollowed := true, recurses := true, apart := false }
def MerkleApartSaid : Prop := merkleApartRow.holds Try.pinned (OpenSpec.ofChange merkleApartSpec)

/-- ITS FALSE NEIGHBOUR: 'it returns false'. Refute it at one input. -/
def merkleApartWrong : ChangeSpec := { name := "merkleApart", fn := fun _ => fun
  | [d1, d2] => { results := [.lit (.bool false)], args := [d1, d2] }
  | _ => none }
def MerkleApartWrongFalsely : Prop := merkleApartRow.holds Try.pinned (OpenSpec.ofChange merkleApartWrong)

/-- 'quitclaimlaw04.IdRows': WHATEVER THE INPUT: true; the input reads as it did. -/
def idRowsSpec : ChangeSpec := { name := "idRows", fn := fun _ => fun
  | [d1, d2] => { results := [.lit (.bool true)], args := [d1, d2] }
  | _ => none }
def idRowsRow : OpenClaim := { program := "ytkibibgbmkejjaa", sum := "d1ac3abab647b0f72ac033b1430b40d2bdb52013245b006d45df04e70dd3189f", func := "quitclaim/quitclaimlaw04.IdRows", spec := "idRows", inPlace := ["internal/bytealg.Compare"], unfollowed := true, recurses := true, apart := false }
def IdRowsSaid : Prop := idRowsRow.holds Try.pinned (OpenSpec.ofChange idRowsSpec)

/-- ITS FALSE NEIGHBOUR: 'it returns false'. Refute it at one input. -/
def idRowsWrong : ChangeSpec := { name := "idRows", fn := fun _ => fun
  | [d1, d2] => { results := [.lit (.bool false)], args := [d1, d2] }
  | _ => none }
def IdRowsWrongFalsely : Prop := idRowsRow.holds Try.pinned (OpenSpec.ofChange idRowsWrong)

/- THE SECOND FORM. 'bulk': how many values and letters a reading holds, each counted each time it is reached (what is shared counts as often as it is met; a slice's spare places count too). A statement '..UptoSaid' is the law's where the arguments, and the package variables that the reading takes, are together of bulk at most 1048576: NARROWER than '..Said'. Prove '..Said' where nothing that the law and all that it calls make is longer than what came in: it says more and counts as full. Else prove '..UptoSaid'. A law counts once. -/
mutual
def uptoBulk {H : Type} : DataW H → Nat
  | .lit (.string bytes) => bytes.length + 1
  | .lit _ => 1
  | .nil => 1
  | .ptr d => uptoBulk d + 1
  | .slice elems spare => uptoBulkAll elems + uptoBulkAll spare + 1
  | .agg parts => uptoBulkAll parts + 1
  | .iface _ d => uptoBulk d + 1
  | .map entries => uptoBulkEntries entries + 1
  | .held _ => 1
def uptoBulkAll {H : Type} : List (DataW H) → Nat
  | [] => 0
  | d :: r => uptoBulk d + uptoBulkAll r
def uptoBulkEntries {H : Type} : List (Lit × DataW H) → Nat
  | [] => 0
  | x :: r => uptoBulkEntry x + uptoBulkEntries r
def uptoBulkEntry {H : Type} : Lit × DataW H → Nat
  | (.string bytes, d) => bytes.length + uptoBulk d + 1
  | (_, d) => uptoBulk d + 1
 end
def uptoSmall : (H : Type) → List (DataW H) → Bool := fun _ ds => decide (uptoBulkAll ds ≤ 1048576)
def OpenSpec.upto (s : _root_.Go.ChangeSpec) : _root_.Go.OpenSpec := { _root_.Go.OpenSpec.ofChange s with cond := some uptoSmall }

/-- 'quitclaimlaw04.IdTexts', WHERE WHAT IT READS IS OF BULK AT MOST 1048576: true; the input reads as it did. -/
def idTextsUptoRow : OpenClaim := { program := "ytkibibgbmkejjaa", sum := "d1ac3abab647b0f72ac033b1430b40d2bdb52013245b006d45df04e70dd3189f", func := "quitclaim/quitclaimlaw04.IdTexts", spec := "idTexts", inPlace := ["internal/bytealg.Compare", "internal/bytealg.IndexByteString"], unfollowed := true, recurses := true, apart := false, narrowed := true }
def IdTextsUptoSaid : Prop := idTextsUptoRow.holds Try.pinned (OpenSpec.upto idTextsSpec)

/-- 'quitclaimlaw04.IdSets', WHERE WHAT IT READS IS OF BULK AT MOST 1048576: true; the input reads as it did. -/
def idSetsUptoRow : OpenClaim := { program := "ytkibibgbmkejjaa", sum := "d1ac3abab647b0f72ac033b1430b40d2bdb52013245b006d45df04e70dd3189f", func := "quitclaim/quitclaimlaw04.IdSets", spec := "idSets", inPlace := ["internal/bytealg.Compare"], unfollowed := true, recurses := true, apart := false, narrowed := true }
def IdSetsUptoSaid : Prop := idSetsUptoRow.holds Try.pinned (OpenSpec.upto idSetsSpec)

/-- 'quitclaimlaw03.TagSums', WHERE WHAT IT READS IS OF BULK AT MOST 1048576: true; the input reads as it did. -/
def tagSumsUptoRow : OpenClaim := { program := "ytkibibgbmkejjaa", sum := "d1ac3abab647b0f72ac033b1430b40d2bdb52013245b006d45df04e70dd3189f", func := "quitclaim/quitclaimlaw03.TagSums", spec := "tagSums", inPlace := ["internal/abi.NoEscape", "internal/bytealg.MakeNoZero"], apart := false, narrowed := true }
def TagSumsUptoSaid : Prop := tagSumsUptoRow.holds Try.pinned (OpenSpec.upto tagSumsSpec)

/-- 'quitclaimlaw03.TagRows', WHERE WHAT IT READS IS OF BULK AT MOST 1048576: true; the input reads as it did. -/
def tagRowsUptoRow : OpenClaim := { program := "ytkibibgbmkejjaa", sum := "d1ac3abab647b0f72ac033b1430b40d2bdb52013245b006d45df04e70dd3189f", func := "quitclaim/quitclaimlaw03.TagRows", spec := "tagRows", inPlace := ["internal/abi.NoEscape", "internal/bytealg.MakeNoZero"], apart := false, narrowed := true }
def TagRowsUptoSaid : Prop := tagRowsUptoRow.holds Try.pinned (OpenSpec.upto tagRowsSpec)

/-- 'quitclaimlaw06.LamportSecrets', WHERE WHAT IT READS IS OF BULK AT MOST 1048576: true; the input reads as it did. -/
def lamportSecretsUptoRow : OpenClaim := { program := "ytkibibgbmkejjaa", sum := "d1ac3abab647b0f72ac033b1430b40d2bdb52013245b006d45df04e70dd3189f", func := "quitclaim/quitclaimlaw06.LamportSecrets", spec := "lamportSecrets", inPlace := ["internal/abi.NoEscape", "internal/bytealg.MakeNoZero"], apart := false, narrowed := true }
def LamportSecretsUptoSaid : Prop := lamportSecretsUptoRow.holds Try.pinned (OpenSpec.upto lamportSecretsSpec)

/-- 'quitclaimlaw06.LamportLeaves', WHERE WHAT IT READS IS OF BULK AT MOST 1048576: true; the input reads as it did. -/
def lamportLeavesUptoRow : OpenClaim := { program := "ytkibibgbmkejjaa", sum := "d1ac3abab647b0f72ac033b1430b40d2bdb52013245b006d45df04e70dd3189f", func := "quitclaim/quitclaimlaw06.LamportLeaves", spec := "lamportLeaves", inPlace := ["internal/abi.NoEscape", "internal/bytealg.MakeNoZero"], unfollowed := true, recurses := true, apart := false, narrowed := true }
def LamportLeavesUptoSaid : Prop := lamportLeavesUptoRow.holds Try.pinned (OpenSpec.upto lamportLeavesSpec)

/-- 'quitclaimlaw06.LamportRecovers', WHERE WHAT IT READS IS OF BULK AT MOST 1048576: true; the input reads as it did. -/
def lamportRecoversUptoRow : OpenClaim := { program := "ytkibibgbmkejjaa", sum := "d1ac3abab647b0f72ac033b1430b40d2bdb52013245b006d45df04e70dd3189f", func := "quitclaim/quitclaimlaw06.LamportRecovers", spec := "lamportRecovers", inPlace := ["internal/abi.NoEscape", "internal/bytealg.MakeNoZero"], unfollowed := true, recurses := true, apart := false, narrowed := true }
def LamportRecoversUptoSaid : Prop := lamportRecoversUptoRow.holds Try.pinned (OpenSpec.upto lamportRecoversSpec)

/-- 'quitclaimlaw06.LamportSigns', WHERE WHAT IT READS IS OF BULK AT MOST 1048576: true; the input reads as it did. -/
def lamportSignsUptoRow : OpenClaim := { program := "ytkibibgbmkejjaa", sum := "d1ac3abab647b0f72ac033b1430b40d2bdb52013245b006d45df04e70dd3189f", func := "quitclaim/quitclaimlaw06.LamportSigns", spec := "lamportSigns", inPlace := ["internal/abi.NoEscape", "internal/bytealg.MakeNoZero"], unfollowed := true, recurses := true, apart := false, narrowed := true }
def LamportSignsUptoSaid : Prop := lamportSignsUptoRow.holds Try.pinned (OpenSpec.upto lamportSignsSpec)

/-- 'quitclaimlaw07.KeytreeFolds', WHERE WHAT IT READS IS OF BULK AT MOST 1048576: true; the input reads as it did. -/
def keytreeFoldsUptoRow : OpenClaim := { program := "ytkibibgbmkejjaa", sum := "d1ac3abab647b0f72ac033b1430b40d2bdb52013245b006d45df04e70dd3189f", func := "quitclaim/quitclaimlaw07.KeytreeFolds", spec := "keytreeFolds", inPlace := ["internal/abi.NoEscape", "internal/bytealg.MakeNoZero"], recurses := true, apart := false, narrowed := true }
def KeytreeFoldsUptoSaid : Prop := keytreeFoldsUptoRow.holds Try.pinned (OpenSpec.upto keytreeFoldsSpec)

/-- 'quitclaimlaw07.KeytreeKeys', WHERE WHAT IT READS IS OF BULK AT MOST 1048576: true; the input reads as it did. -/
def keytreeKeysUptoRow : OpenClaim := { program := "ytkibibgbmkejjaa", sum := "d1ac3abab647b0f72ac033b1430b40d2bdb52013245b006d45df04e70dd3189f", func := "quitclaim/quitclaimlaw07.KeytreeKeys", spec := "keytreeKeys", inPlace := ["internal/abi.NoEscape", "internal/bytealg.MakeNoZero"], unfollowed := true, recurses := true, apart := false, narrowed := true }
def KeytreeKeysUptoSaid : Prop := keytreeKeysUptoRow.holds Try.pinned (OpenSpec.upto keytreeKeysSpec)

/-- 'quitclaimlaw07.KeytreeWays', WHERE WHAT IT READS IS OF BULK AT MOST 1048576: true; the input reads as it did. -/
def keytreeWaysUptoRow : OpenClaim := { program := "ytkibibgbmkejjaa", sum := "d1ac3abab647b0f72ac033b1430b40d2bdb52013245b006d45df04e70dd3189f", func := "quitclaim/quitclaimlaw07.KeytreeWays", spec := "keytreeWays", inPlace := ["internal/abi.NoEscape", "internal/bytealg.MakeNoZero"], unfollowed := true, recurses := true, apart := false, narrowed := true }
def KeytreeWaysUptoSaid : Prop := keytreeWaysUptoRow.holds Try.pinned (OpenSpec.upto keytreeWaysSpec)

/-- 'quitclaimlaw21.MerkleSums', WHERE WHAT IT READS IS OF BULK AT MOST 1048576: true; the input reads as it did. -/
def merkleSumsUptoRow : OpenClaim := { program := "ytkibibgbmkejjaa", sum := "d1ac3abab647b0f72ac033b1430b40d2bdb52013245b006d45df04e70dd3189f", func := "quitclaim/quitclaimlaw21.MerkleSums", spec := "merkleSums", inPlace := ["internal/bytealg.Compare", "internal/abi.NoEscape", "internal/bytealg.MakeNoZero"], unfollowed := true, recurses := true, apart := false, narrowed := true }
def MerkleSumsUptoSaid : Prop := merkleSumsUptoRow.holds Try.pinned (OpenSpec.upto merkleSumsSpec)

/-- 'quitclaimlaw21.MerkleProves', WHERE WHAT IT READS IS OF BULK AT MOST 1048576: true; the input reads as it did. -/
def merkleProvesUptoRow : OpenClaim := { program := "ytkibibgbmkejjaa", sum := "d1ac3abab647b0f72ac033b1430b40d2bdb52013245b006d45df04e70dd3189f", func := "quitclaim/quitclaimlaw21.MerkleProves", spec := "merkleProves", inPlace := ["internal/bytealg.Compare", "internal/abi.NoEscape", "internal/bytealg.MakeNoZero"], unfollowed := true, recurses := true, apart := false, narrowed := true }
def MerkleProvesUptoSaid : Prop := merkleProvesUptoRow.holds Try.pinned (OpenSpec.upto merkleProvesSpec)

/-- 'quitclaimlaw21.MerkleChecks', WHERE WHAT IT READS IS OF BULK AT MOST 1048576: true; the input reads as it did. -/
def merkleChecksUptoRow : OpenClaim := { program := "ytkibibgbmkejjaa", sum := "d1ac3abab647b0f72ac033b1430b40d2bdb52013245b006d45df04e70dd3189f", func := "quitclaim/quitclaimlaw21.MerkleChecks", spec := "merkleChecks", inPlace := ["internal/bytealg.Compare", "internal/abi.NoEscape", "internal/bytealg.MakeNoZero"], unfollowed := true, recurses := true, apart := false, narrowed := true }
def MerkleChecksUptoSaid : Prop := merkleChecksUptoRow.holds Try.pinned (OpenSpec.upto merkleChecksSpec)

/-- 'quitclaimlaw21.MerkleApart', WHERE WHAT IT READS IS OF BULK AT MOST 1048576: true; the input reads as it did. -/
def merkleApartUptoRow : OpenClaim := { program := "ytkibibgbmkejjaa", sum := "d1ac3abab647b0f72ac033b1430b40d2bdb52013245b006d45df04e70dd3189f", func := "quitclaim/quitclaimlaw21.MerkleApart", spec := "merkleApart", inPlace := ["internal/bytealg.Compare", "internal/abi.NoEscape", "internal/bytealg.MakeNoZero"], unfollowed := true, recurses := true, apart := false, narrowed := true }
def MerkleApartUptoSaid : Prop := merkleApartUptoRow.holds Try.pinned (OpenSpec.upto merkleApartSpec)

/-- 'quitclaimlaw04.IdRows', WHERE WHAT IT READS IS OF BULK AT MOST 1048576: true; the input reads as it did. -/
def idRowsUptoRow : OpenClaim := { program := "ytkibibgbmkejjaa", sum := "d1ac3abab647b0f72ac033b1430b40d2bdb52013245b006d45df04e70dd3189f", func := "quitclaim/quitclaimlaw04.IdRows", spec := "idRows", inPlace := ["internal/bytealg.Compare"], unfollowed := true, recurses := true, apart := false, narrowed := true }
def IdRowsUptoSaid : Prop := idRowsUptoRow.holds Try.pinned (OpenSpec.upto idRowsSpec)

end Rows
end Go.Proofs.Ytkibibgbmkejjaa
