/- diff.Of's closure where a hunk is open: contract. -/
import Derived.Test.YtkbapegohodcgaaQDif7
set_option linter.unusedSimpArgs false
set_option linter.unusedVariables false
namespace Go.Proofs.Ytkbapegohodcgaa
open Go.RowKit
open Go.Qk hiding rotr b4
set_option maxHeartbeats 1000000
set_option maxRecDepth 100000
theorem infoHkS3 : Try.prog.cellsOf 77 = 3 := by kernel_rfl
theorem growOpen (g8 g7 g10 gb n c : Nat) (hn : n + 1 ≤ 1000000) (w : World) (h8 : w.cell? ⟨g8, 0, none⟩ = some (.bool true)) (h7 : w.cell? ⟨g7, 0, none⟩ = some (.slice (some ⟨gb, 0, none⟩) (n + 1) c)) :
    Calls Try.prog 97 #[.pointer (some ⟨g8, 0, none⟩), .pointer (some ⟨g7, 0, none⟩), .pointer (some ⟨g10, 0, none⟩)] w fun e w' => e = .returned (.pointer (some ⟨gb, n * 3, none⟩)) ∧ Below w.heap.size w w' := by
  have n0 : (0 : Int) ≤ (n : Int) := by omega
  have n1 : (n : Int) < (n : Int) + 1 := by omega
  have n2 : (n : Int) + 1 - 1 = (n : Int) := by omega
  go_enter Try.func97, Try.ntmps97
  have HB := hid (grow_refl w)
  go_wp2_with fail
  go_ret
  exact ⟨rfl, HB.out⟩
end Go.Proofs.Ytkbapegohodcgaa
