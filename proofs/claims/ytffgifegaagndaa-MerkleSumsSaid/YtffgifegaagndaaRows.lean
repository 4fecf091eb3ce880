/-
  No cell of these rows narrows 'for every input' (looked for: loops, veiled, ifaces, maps, wideKeys, modest, calm, conditions, laid).
  DERIVED. THE GIVEN ROWS OF THIS SEAT. 13 by the template 'for every input the law returns true; each argument reads behind the call as it read before'; 0 by the template 'total and deterministic' (their statements: YtffgifegaagndaaTotals.lean).
  GIVEN WITH THE SEED: the statements are not yours to turn. If you find one false, say at which input.
  Laid BY PROGRAM, IN A SANDBOX (cutbox-rows.mjs): the forced cells as the released guide's own fill.sh prints them over the translation 9da6ad4cadbb2a8b… (all of the seat's roots in one cut). By AI agents, Wed Nov 11 2026. No macro, syntax, notation, axiom, sorry.
-/
import Derived.Test.YtffgifegaagndaaChecked
import GoSem.Claim
import GoSem.ClaimJoined
import GoSem.ClaimMapViews
import Derived.JoinedTies
import Derived.KernelRfl
namespace Go.Proofs.Ytffgifegaagndaa
/- THE CELL 'sum', in the pinned program and in every row, IS THE sha256 OF THE DUMP (.gsa) THAT YtffgifegaagndaaProg.lean LOADS. Nothing in Lean hashes anything: it is a label: what it is worth is what the hold of that sum in a sandbox is worth. -/
noncomputable def Try.pinned : Pinned := { name := "ytffgifegaagndaa", sum := "9da6ad4cadbb2a8b00ec3853d5609e3884c70d5807a972a9a87187c5d0227c58", checked := Try.checked }
namespace Rows
def none {H : Type} : Left H := { results := [], args := [] }

/-- 'quitclaimlaw06.LamportRecovers': WHATEVER THE INPUT: true; the input reads as it did. -/
def lamportRecoversSpec : ChangeSpec := { name := "lamportRecovers", fn := fun _ => fun
  | [d1, d2, d3] => { results := [.lit (.bool true)], args := [d1, d2, d3] }
  | _ => none }
def lamportRecoversRow : OpenClaim := { program := "ytffgifegaagndaa", sum := "9da6ad4cadbb2a8b00ec3853d5609e3884c70d5807a972a9a87187c5d0227c58", func := "quitclaim/quitclaimlaw06.LamportRecovers", spec := "lamportRecovers", inPlace := ["internal/abi.NoEscape", "internal/bytealg.MakeNoZero"], unfollowed := true, recurses := true, apart := false }
def LamportRecoversSaid : Prop := lamportRecoversRow.holds Try.pinned (OpenSpec.ofChange lamportRecoversSpec)

/-- ITS FALSE NEIGHBOUR: 'it returns false'. Refute it at one input. -/
def lamportRecoversWrong : ChangeSpec := { name := "lamportRecovers", fn := fun _ => fun
  | [d1, d2, d3] => { results := [.lit (.bool false)], args := [d1, d2, d3] }
  | _ => none }
def LamportRecoversWrongFalsely : Prop := lamportRecoversRow.holds Try.pinned (OpenSpec.ofChange lamportRecoversWrong)

/-- 'quitclaimlaw07.KeytreeFolds': WHATEVER THE INPUT: true; the input reads as it did. -/
def keytreeFoldsSpec : ChangeSpec := { name := "keytreeFolds", fn := fun _ => fun
  | [d1, d2, d3, d4] => { results := [.lit (.bool true)], args := [d1, d2, d3, d4] }
  | _ => none }
def keytreeFoldsRow : OpenClaim := { program := "ytffgifegaagndaa", sum := "9da6ad4cadbb2a8b00ec3853d5609e3884c70d5807a972a9a87187c5d0227c58", func := "quitclaim/quitclaimlaw07.KeytreeFolds", spec := "keytreeFolds", inPlace := ["internal/abi.NoEscape", "internal/bytealg.MakeNoZero"], recurses := true, apart := false }
def KeytreeFoldsSaid : Prop := keytreeFoldsRow.holds Try.pinned (OpenSpec.ofChange keytreeFoldsSpec)

/-- ITS FALSE NEIGHBOUR: 'it returns false'. Refute it at one input. -/
def keytreeFoldsWrong : ChangeSpec := { name := "keytreeFolds", fn := fun _ => fun
  | [d1, d2, d3, d4] => { results := [.lit (.bool false)], args := [d1, d2, d3, d4] }
  | _ => none }
def KeytreeFoldsWrongFalsely : Prop := keytreeFoldsRow.holds Try.pinned (OpenSpec.ofChange keytreeFoldsWrong)

/-- 'quitclaimlaw07.KeytreeKeys': WHATEVER THE INPUT: true; the input reads as it did. -/
def keytreeKeysSpec : ChangeSpec := { name := "keytreeKeys", fn := fun _ => fun
  | [d1, d2, d3] => { results := [.lit (.bool true)], args := [d1, d2, d3] }
  | _ => none }
def keytreeKeysRow : OpenClaim := { program := "ytffgifegaagndaa", sum := "9da6ad4cadbb2a8b00ec3853d5609e3884c70d5807a972a9a87187c5d0227c58", func := "quitclaim/quitclaimlaw07.KeytreeKeys", spec := "keytreeKeys", inPlace := ["internal/abi.NoEscape", "internal/bytealg.MakeNoZero"], unfollowed := true, recurses := true, apart := false }
def KeytreeKeysSaid : Prop := keytreeKeysRow.holds Try.pinned (OpenSpec.ofChange keytreeKeysSpec)

/-- ITS FALSE NEIGHBOUR: 'it returns false'. Refute it at one input. -/
def keytreeKeysWrong : ChangeSpec := { name := "keytreeKeys", fn := fun _ => fun
  | [d1, d2, d3] => { results := [.lit (.bool false)], args := [d1, d2, d3] }
  | _ => none }
def KeytreeKeysWrongFalsely : Prop := keytreeKeysRow.holds Try.pinned (OpenSpec.ofChange keytreeKeysWrong)

/-- 'quitclaimlaw07.KeytreeWays': WHATEVER THE INPUT: true; the input reads as it did. -/
def keytreeWaysSpec : ChangeSpec := { name := "keytreeWays", fn := fun _ => fun
  | [d1, d2, d3] => { results := [.lit (.bool true)], args := [d1, d2, d3] }
  | _ => none }
def keytreeWaysRow : OpenClaim := { program := "ytffgifegaagndaa", sum := "9da6ad4cadbb2a8b00ec3853d5609e3884c70d5807a972a9a87187c5d0227c58", func := "quitclaim/quitclaimlaw07.KeytreeWays", spec := "keytreeWays", inPlace := ["internal/abi.NoEscape", "internal/bytealg.MakeNoZero"], unfollowed := true, recurses := true, apart := false }
def KeytreeWaysSaid : Prop := keytreeWaysRow.holds Try.pinned (OpenSpec.ofChange keytreeWaysSpec)

/-- ITS FALSE NEIGHBOUR: 'it returns false'. Refute it at one input. -/
def keytreeWaysWrong : ChangeSpec := { name := "keytreeWays", fn := fun _ => fun
  | [d1, d2, d3] => { results := [.lit (.bool false)], args := [d1, d2, d3] }
  | _ => none }
def KeytreeWaysWrongFalsely : Prop := keytreeWaysRow.holds Try.pinned (OpenSpec.ofChange keytreeWaysWrong)

/-- 'quitclaimlaw21.MerkleSums': WHATEVER THE INPUT: true; the input reads as it did. -/
def merkleSumsSpec : ChangeSpec := { name := "merkleSums", fn := fun _ => fun
  | [d1, d2, d3] => { results := [.lit (.bool true)], args := [d1, d2, d3] }
  | _ => none }
def merkleSumsRow : OpenClaim := { program := "ytffgifegaagndaa", sum := "9da6ad4cadbb2a8b00ec3853d5609e3884c70d5807a972a9a87187c5d0227c58", func := "quitclaim/quitclaimlaw21.MerkleSums", spec := "merkleSums", inPlace := ["internal/bytealg.Compare", "internal/abi.NoEscape", "internal/bytealg.MakeNoZero"], unfollowed := true, recurses := true, apart := false }
def MerkleSumsSaid : Prop := merkleSumsRow.holds Try.pinned (OpenSpec.ofChange merkleSumsSpec)

/-- ITS FALSE NEIGHBOUR: 'it returns false'. Refute it at one input. -/
def merkleSumsWrong : ChangeSpec := { name := "merkleSums", fn := fun _ => fun
  | [d1, d2, d3] => { results := [.lit (.bool false)], args := [d1, d2, d3] }
  | _ => none }
def MerkleSumsWrongFalsely : Prop := merkleSumsRow.holds Try.pinned (OpenSpec.ofChange merkleSumsWrong)

/-- 'quitclaimlaw21.MerkleProves': WHATEVER THE INPUT: true; the input reads as it did. -/
def merkleProvesSpec : ChangeSpec := { name := "merkleProves", fn := fun _ => fun
  | [d1, d2] => { results := [.lit (.bool true)], args := [d1, d2] }
  | _ => none }
def merkleProvesRow : OpenClaim := { program := "ytffgifegaagndaa", sum := "9da6ad4cadbb2a8b00ec3853d5609e3884c70d5807a972a9a87187c5d0227c58", func := "quitclaim/quitclaimlaw21.MerkleProves", spec := "merkleProves", inPlace := ["internal/bytealg.Compare", "internal/abi.NoEscape", "internal/bytealg.MakeNoZero"], unfollowed := true, recurses := true, apart := false }
def MerkleProvesSaid : Prop := merkleProvesRow.holds Try.pinned (OpenSpec.ofChange merkleProvesSpec)

/-- ITS FALSE NEIGHBOUR: 'it returns false'. Refute it at one input. -/
def merkleProvesWrong : ChangeSpec := { name := "merkleProves", fn := fun _ => fun
  | [d1, d2] => { results := [.lit (.bool false)], args := [d1, d2] }
  | _ => none }
def MerkleProvesWrongFalsely : Prop := merkleProvesRow.holds Try.pinned (OpenSpec.ofChange merkleProvesWrong)

/-- 'quitclaimlaw21.MerkleChecks': WHATEVER THE INPUT: true; the input reads as it did. -/
def merkleChecksSpec : ChangeSpec := { name := "merkleChecks", fn := fun _ => fun
  | [d1, d2, d3] => { results := [.lit (.bool true)], args := [d1, d2, d3] }
  | _ => none }
def merkleChecksRow : OpenClaim := { program := "ytffgifegaagndaa", sum := "9da6ad4cadbb2a8b00ec3853d5609e3884c70d5807a972a9a87187c5d0227c58", func := "quitclaim/quitclaimlaw21.MerkleChecks", spec := "merkleChecks", inPlace := ["internal/bytealg.Compare", "internal/abi.NoEscape", "internal/bytealg.MakeNoZero"], unfollowed := true, recurses := true, apart := false }
def MerkleChecksSaid : Prop := merkleChecksRow.holds Try.pinned (OpenSpec.ofChange merkleChecksSpec)

/-- ITS FALSE NEIGHBOUR: 'it returns false'. Refute it at one input. -/
def merkleChecksWrong : ChangeSpec := { name := "merkleChecks", fn := fun _ => fun
  | [d1, d2, d3] => { results := [.lit (.bool false)], args := [d1, d2, d3] }
  | _ => none }
def MerkleChecksWrongFalsely : Prop := merkleChecksRow.holds Try.pinned (OpenSpec.ofChange merkleChecksWrong)

/-- 'quitclaimlaw21.MerkleApart': WHATEVER THE INPUT: true; the input reads as it did. -/
def merkleApartSpec : ChangeSpec := { name := "merkleApart", fn := fun _ => fun
  | [d1, d2] => { results := [.lit (.bool true)], args := [d1, d2] }
  | _ => none }
def merkleApartRow : OpenClaim := { program := "ytffgifegaagndaa", sum := "9da6ad4cadbb2a8b00ec3853d5609e3884c70d5807a972a9a87187c5d0227c58", func := "quitclaim/quitclaimlaw21.MerkleApart", spec := "merkleApart", inPlace := ["internal/bytealg.Compare", "internal/abi.NoEscape", "internal/bytealg.MakeNoZero"], unfollowed := true, recurses := true, apart := false }
def MerkleApartSaid : Prop := merkleApartRow.holds Try.pinned (OpenSpec.ofChange merkleApartSpec)

/-- ITS FALSE NEIGHBOUR: 'it returns false'. Refute it at one input. -/
def merkleApartWrong : ChangeSpec := { name := "merkleApart", fn := fun _ => fun
  | [d1, d2] => { results := [.lit (.bool false)], args := [d1, d2] }
  | _ => none }
def MerkleApartWrongFalsely : Prop := merkleApartRow.holds Try.pinned (OpenSpec.ofChange merkleApartWrong)

/-- 'quitclaimlaw04.IdRows': WHATEVER THE INPUT: true; the input reads as it did. -/
def idRowsSpec : ChangeSpec := { name := "idRows", fn := fun _ => fun
  | [d1, d2] => { results := [.lit (.bool true)], args := [d1, d2] }
  | _ => none }
def idRowsRow : OpenClaim := { program := "ytffgifegaagndaa", sum := "9da6ad4cadbb2a8b00ec3853d5609e3884c70d5807a972a9a87187c5d0227c58", func := "quitclaim/quitclaimlaw04.IdRows", spec := "idRows", inPlace := ["internal/bytealg.Compare"], unfollowed := true, recurses := true, apart := false }
def IdRowsSaid : Prop := idRowsRow.holds Try.pinned (OpenSpec.ofChange idRowsSpec)

/-- ITS FALSE NEIGHBOUR: 'it returns false'. Refute it at one input. -/
def idRowsWrong : ChangeSpec := { name := "idRows", fn := fun _ => fun
  | [d1, d2] => { results := [.lit (.bool false)], args := [d1, d2] }
  | _ => none }
def IdRowsWrongFalsely : Prop := idRowsRow.holds Try.pinned (OpenSpec.ofChange idRowsWrong)

/-- 'quitclaimlaw08.SignerNew': WHATEVER THE INPUT: true; the input reads as it did. -/
def signerNewSpec : ChangeSpec := { name := "signerNew", fn := fun _ => fun
  | [d1, d2, d3] => { results := [.lit (.bool true)], args := [d1, d2, d3] }
  | _ => none }
def signerNewRow : OpenClaim := { program := "ytffgifegaagndaa", sum := "9da6ad4cadbb2a8b00ec3853d5609e3884c70d5807a972a9a87187c5d0227c58", func := "quitclaim/quitclaimlaw08.SignerNew", spec := "signerNew", inPlace := ["internal/abi.NoEscape", "internal/bytealg.MakeNoZero"], unfollowed := true, recurses := true, apart := false }
def SignerNewSaid : Prop := signerNewRow.holds Try.pinned (OpenSpec.ofChange signerNewSpec)

/-- ITS FALSE NEIGHBOUR: 'it returns false'. Refute it at one input. -/
def signerNewWrong : ChangeSpec := { name := "signerNew", fn := fun _ => fun
  | [d1, d2, d3] => { results := [.lit (.bool false)], args := [d1, d2, d3] }
  | _ => none }
def SignerNewWrongFalsely : Prop := signerNewRow.holds Try.pinned (OpenSpec.ofChange signerNewWrong)

/-- 'quitclaimlaw08.SignerVerifies': WHATEVER THE INPUT: true; the input reads as it did. -/
def signerVerifiesSpec : ChangeSpec := { name := "signerVerifies", fn := fun _ => fun
  | [d1, d2, d3, d4] => { results := [.lit (.bool true)], args := [d1, d2, d3, d4] }
  | _ => none }
def signerVerifiesRow : OpenClaim := { program := "ytffgifegaagndaa", sum := "9da6ad4cadbb2a8b00ec3853d5609e3884c70d5807a972a9a87187c5d0227c58", func := "quitclaim/quitclaimlaw08.SignerVerifies", spec := "signerVerifies", inPlace := ["internal/abi.NoEscape", "internal/bytealg.MakeNoZero"], unfollowed := true, recurses := true, apart := false }
def SignerVerifiesSaid : Prop := signerVerifiesRow.holds Try.pinned (OpenSpec.ofChange signerVerifiesSpec)

/-- ITS FALSE NEIGHBOUR: 'it returns false'. Refute it at one input. -/
def signerVerifiesWrong : ChangeSpec := { name := "signerVerifies", fn := fun _ => fun
  | [d1, d2, d3, d4] => { results := [.lit (.bool false)], args := [d1, d2, d3, d4] }
  | _ => none }
def SignerVerifiesWrongFalsely : Prop := signerVerifiesRow.holds Try.pinned (OpenSpec.ofChange signerVerifiesWrong)

/-- 'quitclaimlaw08.SignerSigns': WHATEVER THE INPUT: true; the input reads as it did. -/
def signerSignsSpec : ChangeSpec := { name := "signerSigns", fn := fun _ => fun
  | [d1, d2, d3, d4, d5] => { results := [.lit (.bool true)], args := [d1, d2, d3, d4, d5] }
  | _ => none }
def signerSignsRow : OpenClaim := { program := "ytffgifegaagndaa", sum := "9da6ad4cadbb2a8b00ec3853d5609e3884c70d5807a972a9a87187c5d0227c58", func := "quitclaim/quitclaimlaw08.SignerSigns", spec := "signerSigns", inPlace := ["internal/abi.NoEscape", "internal/bytealg.MakeNoZero"], unfollowed := true, recurses := true, apart := false }
def SignerSignsSaid : Prop := signerSignsRow.holds Try.pinned (OpenSpec.ofChange signerSignsSpec)

/-- ITS FALSE NEIGHBOUR: 'it returns false'. Refute it at one input. -/
def signerSignsWrong : ChangeSpec := { name := "signerSigns", fn := fun _ => fun
  | [d1, d2, d3, d4, d5] => { results := [.lit (.bool false)], args := [d1, d2, d3, d4, d5] }
  | _ => none }
def SignerSignsWrongFalsely : Prop := signerSignsRow.holds Try.pinned (OpenSpec.ofChange signerSignsWrong)

/-- 'quitclaimlaw09.WitnessParams': WHATEVER THE INPUT: true; the input reads as it did. -/
def witnessParamsSpec : ChangeSpec := { name := "witnessParams", fn := fun _ => fun
  | [d1, d2, d3, d4] => { results := [.lit (.bool true)], args := [d1, d2, d3, d4] }
  | _ => none }
def witnessParamsRow : OpenClaim := { program := "ytffgifegaagndaa", sum := "9da6ad4cadbb2a8b00ec3853d5609e3884c70d5807a972a9a87187c5d0227c58", func := "quitclaim/quitclaimlaw09.WitnessParams", spec := "witnessParams", inPlace := ["internal/abi.NoEscape", "internal/bytealg.MakeNoZero"], unfollowed := true, recurses := true, apart := false }
def WitnessParamsSaid : Prop := witnessParamsRow.holds Try.pinned (OpenSpec.ofChange witnessParamsSpec)

/-- ITS FALSE NEIGHBOUR: 'it returns false'. Refute it at one input. -/
def witnessParamsWrong : ChangeSpec := { name := "witnessParams", fn := fun _ => fun
  | [d1, d2, d3, d4] => { results := [.lit (.bool false)], args := [d1, d2, d3, d4] }
  | _ => none }
def WitnessParamsWrongFalsely : Prop := witnessParamsRow.holds Try.pinned (OpenSpec.ofChange witnessParamsWrong)

/- THE SECOND FORM. 'bulk': how many values and letters a reading holds, each counted each time it is reached (what is shared counts as often as it is met; a slice's spare places count too). A statement '..UptoSaid' is the law's where the arguments, and the package variables that the reading takes, are together of bulk at most 1048576: NARROWER than '..Said'. Prove '..Said' where nothing that the law and all that it calls make is longer than what came in: it says more and counts as full. Else prove '..UptoSaid'. A law counts once. -/
mutual
def uptoBulk {H : Type} : DataW H → Nat
  | .lit (.string bytes) => bytes.length + 1
  | .lit _ => 1
  | .nil => 1
  | .ptr d => uptoBulk d + 1
  | .slice elems spare => uptoBulkAll elems + uptoBulkAll spare + 1
  | .agg parts => uptoBulkAll parts + 1
  | .iface _ d => uptoBulk d + 1
  | .map entries => uptoBulkEntries entries + 1
  | .held _ => 1
def uptoBulkAll {H : Type} : List (DataW H) → Nat
  | [] => 0
  | d :: r => uptoBulk d + uptoBulkAll r
def uptoBulkEntries {H : Type} : List (Lit × DataW H) → Nat
  | [] => 0
  | x :: r => uptoBulkEntry x + uptoBulkEntries r
def uptoBulkEntry {H : Type} : Lit × DataW H → Nat
  | (.string bytes, d) => bytes.length + uptoBulk d + 1
  | (_, d) => uptoBulk d + 1
 end
def uptoSmall : (H : Type) → List (DataW H) → Bool := fun _ ds => decide (uptoBulkAll ds ≤ 1048576)
def OpenSpec.upto (s : _root_.Go.ChangeSpec) : _root_.Go.OpenSpec := { _root_.Go.OpenSpec.ofChange s with cond := some uptoSmall }

/-- 'quitclaimlaw06.LamportRecovers', WHERE WHAT IT READS IS OF BULK AT MOST 1048576: true; the input reads as it did. -/
def lamportRecoversUptoRow : OpenClaim := { program := "ytffgifegaagndaa", sum := "9da6ad4cadbb2a8b00ec3853d5609e3884c70d5807a972a9a87187c5d0227c58", func := "quitclaim/quitclaimlaw06.LamportRecovers", spec := "lamportRecovers", inPlace := ["internal/abi.NoEscape", "internal/bytealg.MakeNoZero"], unfollowed := true, recurses := true, apart := false, narrowed := true }
def LamportRecoversUptoSaid : Prop := lamportRecoversUptoRow.holds Try.pinned (OpenSpec.upto lamportRecoversSpec)

/-- 'quitclaimlaw07.KeytreeFolds', WHERE WHAT IT READS IS OF BULK AT MOST 1048576: true; the input reads as it did. -/
def keytreeFoldsUptoRow : OpenClaim := { program := "ytffgifegaagndaa", sum := "9da6ad4cadbb2a8b00ec3853d5609e3884c70d5807a972a9a87187c5d0227c58", func := "quitclaim/quitclaimlaw07.KeytreeFolds", spec := "keytreeFolds", inPlace := ["internal/abi.NoEscape", "internal/bytealg.MakeNoZero"], recurses := true, apart := false, narrowed := true }
def KeytreeFoldsUptoSaid : Prop := keytreeFoldsUptoRow.holds Try.pinned (OpenSpec.upto keytreeFoldsSpec)

/-- 'quitclaimlaw07.KeytreeKeys', WHERE WHAT IT READS IS OF BULK AT MOST 1048576: true; the input reads as it did. -/
def keytreeKeysUptoRow : OpenClaim := { program := "ytffgifegaagndaa", sum := "9da6ad4cadbb2a8b00ec3853d5609e3884c70d5807a972a9a87187c5d0227c58", func := "quitclaim/quitclaimlaw07.KeytreeKeys", spec := "keytreeKeys", inPlace := ["internal/abi.NoEscape", "internal/bytealg.MakeNoZero"], unfollowed := true, recurses := true, apart := false, narrowed := true }
def KeytreeKeysUptoSaid : Prop := keytreeKeysUptoRow.holds Try.pinned (OpenSpec.upto keytreeKeysSpec)

/-- 'quitclaimlaw07.KeytreeWays', WHERE WHAT IT READS IS OF BULK AT MOST 1048576: true; the input reads as it did. -/
def keytreeWaysUptoRow : OpenClaim := { program := "ytffgifegaagndaa", sum := "9da6ad4cadbb2a8b00ec3853d5609e3884c70d5807a972a9a87187c5d0227c58", func := "quitclaim/quitclaimlaw07.KeytreeWays", spec := "keytreeWays", inPlace := ["internal/abi.NoEscape", "internal/bytealg.MakeNoZero"], unfollowed := true, recurses := true, apart := false, narrowed := true }
def KeytreeWaysUptoSaid : Prop := keytreeWaysUptoRow.holds Try.pinned (OpenSpec.upto keytreeWaysSpec)

/-- 'quitclaimlaw21.MerkleSums', WHERE WHAT IT READS IS OF BULK AT MOST 1048576: true; the input reads as it did. -/
def merkleSumsUptoRow : OpenClaim := { program := "ytffgifegaagndaa", sum := "9da6ad4cadbb2a8b00ec3853d5609e3884c70d5807a972a9a87187c5d0227c58", func := "quitclaim/quitclaimlaw21.MerkleSums", spec := "merkleSums", inPlace := ["internal/bytealg.Compare", "internal/abi.NoEscape", "internal/bytealg.MakeNoZero"], unfollowed := true, recurses := true, apart := false, narrowed := true }
def MerkleSumsUptoSaid : Prop := merkleSumsUptoRow.holds Try.pinned (OpenSpec.upto merkleSumsSpec)

/-- 'quitclaimlaw21.MerkleProves', WHERE WHAT IT READS IS OF BULK AT MOST 1048576: true; the input reads as it did. -/
def merkleProvesUptoRow : OpenClaim := { program := "ytffgifegaagndaa", sum := "9da6ad4cadbb2a8b00ec3853d5609e3884c70d5807a972a9a87187c5d0227c58", func := "quitclaim/quitclaimlaw21.MerkleProves", spec := "merkleProves", inPlace := ["internal/bytealg.Compare", "internal/abi.NoEscape", "internal/bytealg.MakeNoZero"], unfollowed := true, recurses := true, apart := false, narrowed := true }
def MerkleProvesUptoSaid : Prop := merkleProvesUptoRow.holds Try.pinned (OpenSpec.upto merkleProvesSpec)

/-- 'quitclaimlaw21.MerkleChecks', WHERE WHAT IT READS IS OF BULK AT MOST 1048576: true; the input reads as it did. -/
def merkleChecksUptoRow : OpenClaim := { program := "ytffgifegaagndaa", sum := "9da6ad4cadbb2a8b00ec3853d5609e3884c70d5807a972a9a87187c5d0227c58", func := "quitclaim/quitclaimlaw21.MerkleChecks", spec := "merkleChecks", inPlace := ["internal/bytealg.Compare", "internal/abi.NoEscape", "internal/bytealg.MakeNoZero"], unfollowed := true, recurses := true, apart := false, narrowed := true }
def MerkleChecksUptoSaid : Prop := merkleChecksUptoRow.holds Try.pinned (OpenSpec.upto merkleChecksSpec)

/-- 'quitclaimlaw21.MerkleApart', WHERE WHAT IT READS IS OF BULK AT MOST 1048576: true; the input reads as it did. -/
def merkleApartUptoRow : OpenClaim := { program := "ytffgifegaagndaa", sum := "9da6ad4cadbb2a8b00ec3853d5609e3884c70d5807a972a9a87187c5d0227c58", func := "quitclaim/quitclaimlaw21.MerkleApart", spec := "merkleApart", inPlace := ["internal/bytealg.Compare", "internal/abi.NoEscape", "internal/bytealg.MakeNoZero"], unfollowed := true, recurses := true, apart := false, narrowed := true }
def MerkleApartUptoSaid : Prop := merkleApartUptoRow.holds Try.pinned (OpenSpec.upto merkleApartSpec)

/-- 'quitclaimlaw04.IdRows', WHERE WHAT IT READS IS OF BULK AT MOST 1048576: true; the input reads as it did. -/
def idRowsUptoRow : OpenClaim := { program := "ytffgifegaagndaa", sum := "9da6ad4cadbb2a8b00ec3853d5609e3884c70d5807a972a9a87187c5d0227c58", func := "quitclaim/quitclaimlaw04.IdRows", spec := "idRows", inPlace := ["internal/bytealg.Compare"], unfollowed := true, recurses := true, apart := false, narrowed := true }
def IdRowsUptoSaid : Prop := idRowsUptoRow.holds Try.pinned (OpenSpec.upto idRowsSpec)

/-- 'quitclaimlaw08.SignerNew', WHERE WHAT IT READS IS OF BULK AT MOST 1048576: true; the input reads as it did. -/
def signerNewUptoRow : OpenClaim := { program := "ytffgifegaagndaa", sum := "9da6ad4cadbb2a8b00ec3853d5609e3884c70d5807a972a9a87187c5d0227c58", func := "quitclaim/quitclaimlaw08.SignerNew", spec := "signerNew", inPlace := ["internal/abi.NoEscape", "internal/bytealg.MakeNoZero"], unfollowed := true, recurses := true, apart := false, narrowed := true }
def SignerNewUptoSaid : Prop := signerNewUptoRow.holds Try.pinned (OpenSpec.upto signerNewSpec)

/-- 'quitclaimlaw08.SignerVerifies', WHERE WHAT IT READS IS OF BULK AT MOST 1048576: true; the input reads as it did. -/
def signerVerifiesUptoRow : OpenClaim := { program := "ytffgifegaagndaa", sum := "9da6ad4cadbb2a8b00ec3853d5609e3884c70d5807a972a9a87187c5d0227c58", func := "quitclaim/quitclaimlaw08.SignerVerifies", spec := "signerVerifies", inPlace := ["internal/abi.NoEscape", "internal/bytealg.MakeNoZero"], unfollowed := true, recurses := true, apart := false, narrowed := true }
def SignerVerifiesUptoSaid : Prop := signerVerifiesUptoRow.holds Try.pinned (OpenSpec.upto signerVerifiesSpec)

/-- 'quitclaimlaw08.SignerSigns', WHERE WHAT IT READS IS OF BULK AT MOST 1048576: true; the input reads as it did. -/
def signerSignsUptoRow : OpenClaim := { program := "ytffgifegaagndaa", sum := "9da6ad4cadbb2a8b00ec3853d5609e3884c70d5807a972a9a87187c5d0227c58", func := "quitclaim/quitclaimlaw08.SignerSigns", spec := "signerSigns", inPlace := ["internal/abi.NoEscape", "internal/bytealg.MakeNoZero"], unfollowed := true, recurses := true, apart := false, narrowed := true }
def SignerSignsUptoSaid : Prop := signerSignsUptoRow.holds Try.pinned (OpenSpec.upto signerSignsSpec)

/-- 'quitclaimlaw09.WitnessParams', WHERE WHAT IT READS IS OF BULK AT MOST 1048576: true; the input reads as it did. -/
def witnessParamsUptoRow : OpenClaim := { program := "ytffgifegaagndaa", sum := "9da6ad4cadbb2a8b00ec3853d5609e3884c70d5807a972a9a87187c5d0227c58", func := "quitclaim/quitclaimlaw09.WitnessParams", spec := "witnessParams", inPlace := ["internal/abi.NoEscape", "internal/bytealg.MakeNoZero"], unfollowed := true, recurses := true, apart := false, narrowed := true }
def WitnessParamsUptoSaid : Prop := witnessParamsUptoRow.holds Try.pinned (OpenSpec.upto witnessParamsSpec)

end Rows
end Go.Proofs.Ytffgifegaagndaa
