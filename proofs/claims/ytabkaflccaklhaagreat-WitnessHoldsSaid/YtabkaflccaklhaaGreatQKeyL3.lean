/- The law KeytreeFolds: walk. -/
import Derived.Test.YtabkaflccaklhaaGreatQKeyC
import Derived.Test.YtabkaflccaklhaaGreatQKeyD
import Derived.Test.YtabkaflccaklhaaGreatQKeyD2
import Derived.Test.YtabkaflccaklhaaGreatQKeyD3
set_option linter.unusedSimpArgs false
set_option linter.unusedVariables false
namespace Go.Proofs.YtabkaflccaklhaaGreat
open Go.RowKit
open Go.Qk hiding rotr b4
set_option maxHeartbeats 1000000
set_option maxRecDepth 100000
theorem id_neq_self (F : List UInt8) (hF : F.length = 32) (w : World) : (Go.binOp .neq 42 (idV F) (idV F)).run Tryz.prog w = .ok (.bool false) w := by
  rw [id_neq F F hF hF w, beq_self_eq_true]
  rfl
theorem refPairN (x y : IdK) (hx : x.length = 32) (hy : y.length = 32) (w : World) : Calls Tryz.prog 115 #[.string nodeName, idV x, idV y] w fun e w' => e = .returned (idV (nd x y)) ∧ Below w.heap.size w w' := refPair nodeName x y hx hy (by decide) w
theorem refClimbAll (leaf : Int) (L : Nat) (hL : max leaf 0 = (L : Int)) (hlm : leaf ≤ 9223372036854775807) (sum : IdK) (hs : sum.length = 32) (A : Option Addr) (n c : Nat) (way : List IdK) (w : World) (hx : IdRow w A way) (hn : way.length = n) (h32 : ∀ s ∈ way, s.length = 32) (hmax : n ≤ 1000000) :
    Calls Tryz.prog 75 #[.int .i64 leaf, idV sum, .slice A n c] w fun e w' => e = .returned (idV (climbTo L sum way)) ∧ Below w.heap.size w w' := by
  by_cases h : leaf < 0
  · obtain rfl : L = 0 := by omega
    exact refClimb7_neg leaf h sum hs A n c way w hx hn h32 hmax
  · obtain rfl : leaf = (L : Int) := by omega
    exact refClimb7 L hlm sum hs A n c way w hx hn h32 hmax
def badF (n : Nat) : Bool := n == 0 || bits .and .i64 (n : Int) ((n : Int) - 1) != 0
theorem good_pow : ∀ n : Fin 41, badF n.val = false → ∃ h : Fin 6, n.val = 2 ^ h.val := by decide +kernel
theorem bad_pow : ∀ n : Fin 41, badF n.val = true → ∀ k : Fin 7, 2 ^ k.val ≠ n.val := by decide +kernel
def vv (h i : Nat) : Nat := if i ≤ h then 2 ^ (h - i) else 0
theorem vv_step (h i : Nat) (hi : i ≤ h) : vv h (i + 1) = 2 ^ (h - i) / 2 := by
  unfold vv
  by_cases e : i + 1 ≤ h
  · rw [if_pos e, show h - i = (h - (i + 1)) + 1 by omega, Nat.pow_succ]
    omega
  · rw [if_neg e, show h - i = 0 by omega]
end Go.Proofs.YtabkaflccaklhaaGreat
