import Derived.Test.YtkibibgbmkejjaaQId4
import Derived.Test.YtkibibgbmkejjaaQShelf
set_option linter.unusedSimpArgs false
set_option linter.unusedVariables false
namespace Go.Proofs.Ytkibibgbmkejjaa
open Go.RowKit
open Go.Qk
set_option maxHeartbeats 1000000
set_option maxRecDepth 100000
/-- A digit's value, or -1. -/
def dval (x : UInt8) : Int := if 48 ≤ x.toNat ∧ x.toNat ≤ 57 then (x.toNat : Int) - 48 else if 97 ≤ x.toNat ∧ x.toNat ≤ 102 then (x.toNat : Int) - 87 else -1
theorem dval_lo (x : UInt8) : -1 ≤ dval x := by unfold dval; split <;> (try split) <;> omega
theorem dval_hi (x : UInt8) : dval x ≤ 15 := by unfold dval; split <;> (try split) <;> omega
theorem indexDigF : ∀ n : Fin 256, Lib.indexByte [48, 49, 50, 51, 52, 53, 54, 55, 56, 57, 97, 98, 99, 100, 101, 102] (UInt8.ofNat n.val) = dval (UInt8.ofNat n.val) := by decide +kernel
theorem indexDig (x : UInt8) : Lib.indexByte [48, 49, 50, 51, 52, 53, 54, 55, 56, 57, 97, 98, 99, 100, 101, 102] x = dval x := by
  have := indexDigF ⟨x.toNat, x.toNat_lt⟩
  simpa using this
theorem idDigit (x : UInt8) (w : World) :
    Calls Try.prog 98 #[.string ⟨#[48, 49, 50, 51, 52, 53, 54, 55, 56, 57, 97, 98, 99, 100, 101, 102]⟩, .int .u8 x.toNat] w fun e w' => e = .returned (.int .i64 (dval x)) ∧ Below w.heap.size w w' := by
  refine (Try.strings_IndexByte _ _ w).mono fun e w' h => ?_
  obtain ⟨h1, h2⟩ := h
  subst h2
  refine ⟨?_, Below.refl _ _⟩
  rw [h1, ← indexDig]
  simp
theorem refDigit (x : UInt8) (w : World) :
    Calls Try.prog 100 #[.int .u8 x.toNat] w fun e w' => e = .returned (.int .i64 (dval x)) ∧ Below w.heap.size w w' := by
  have hx := x.toNat_lt
  have HD := hid (show dval x = if 48 ≤ x.toNat ∧ x.toNat ≤ 57 then (x.toNat : Int) - 48 else if 97 ≤ x.toNat ∧ x.toNat ≤ 102 then (x.toNat : Int) - 87 else -1 from rfl)
  by_cases h1 : 48 ≤ x.toNat
  · by_cases h2 : x.toNat ≤ 57
    · have t1 : (48 : Int) ≤ (x.toNat : Int) := by omega
      have t2 : (x.toNat : Int) ≤ 57 := by omega
      go_enter Try.func100, Try.ntmps100
      go_wp2
      go_ret
      exact ⟨by rw [HD.out, if_pos ⟨h1, h2⟩]; rfl, Below.refl _ _⟩
    · by_cases h3 : 97 ≤ x.toNat
      · by_cases h4 : x.toNat ≤ 102
        · have t1 : (48 : Int) ≤ (x.toNat : Int) := by omega
          have t2 : ¬ (x.toNat : Int) ≤ 57 := by omega
          have t3 : (97 : Int) ≤ (x.toNat : Int) := by omega
          have t4 : (x.toNat : Int) ≤ 102 := by omega
          go_enter Try.func100, Try.ntmps100
          go_wp2
          go_ret
          exact ⟨by rw [HD.out, if_neg (by omega), if_pos ⟨h3, h4⟩]; rfl, Below.refl _ _⟩
        · have t1 : (48 : Int) ≤ (x.toNat : Int) := by omega
          have t2 : ¬ (x.toNat : Int) ≤ 57 := by omega
          have t3 : (97 : Int) ≤ (x.toNat : Int) := by omega
          have t4 : ¬ (x.toNat : Int) ≤ 102 := by omega
          go_enter Try.func100, Try.ntmps100
          go_wp2
          go_ret
          exact ⟨by rw [HD.out, if_neg (by omega), if_neg (by omega)]; rfl, Below.refl _ _⟩
      · have t1 : (48 : Int) ≤ (x.toNat : Int) := by omega
        have t2 : ¬ (x.toNat : Int) ≤ 57 := by omega
        have t3 : ¬ (97 : Int) ≤ (x.toNat : Int) := by omega
        go_enter Try.func100, Try.ntmps100
        go_wp2
        go_ret
        exact ⟨by rw [HD.out, if_neg (by omega), if_neg (by omega)]; rfl, Below.refl _ _⟩
  · have t1 : ¬ (48 : Int) ≤ (x.toNat : Int) := by omega
    have t3 : ¬ (97 : Int) ≤ (x.toNat : Int) := by omega
    go_enter Try.func100, Try.ntmps100
    go_wp2
    go_ret
    exact ⟨by rw [HD.out, if_neg (by omega), if_neg (by omega)]; rfl, Below.refl _ _⟩
end Go.Proofs.Ytkibibgbmkejjaa
