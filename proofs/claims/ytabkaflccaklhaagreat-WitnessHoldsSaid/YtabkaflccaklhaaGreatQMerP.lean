/- Merkle: plain words. -/
import Derived.Test.YtabkaflccaklhaaGreatQKit1
import Derived.Test.YtabkaflccaklhaaGreatQRowR
set_option linter.unusedSimpArgs false
set_option linter.unusedVariables false
namespace Go.Proofs.YtabkaflccaklhaaGreat
open Go.RowKit
open Go.Qk hiding rotr b4
def halfF (n : Nat) : Nat → Nat → Nat
  | 0, k => k
  | f + 1, k => if 2 * k < n then halfF n f (2 * k) else k
def halfN (n : Nat) : Nat := halfF n n 1
theorem halfF_lt (n : Nat) : ∀ f k, 1 ≤ k → k < n → 1 ≤ halfF n f k ∧ halfF n f k < n
  | 0, k, h1, h2 => ⟨h1, h2⟩
  | f + 1, k, h1, h2 => by
    unfold halfF
    by_cases h : 2 * k < n
    · rw [if_pos h]; exact halfF_lt n f (2 * k) (by omega) h
    · rw [if_neg h]; exact ⟨h1, h2⟩
theorem halfN_lt {n : Nat} (h : 2 ≤ n) : 1 ≤ halfN n ∧ halfN n < n := halfF_lt n n 1 (Nat.le_refl _) (by omega)
theorem halfF_stop (n k : Nat) (h : ¬ 2 * k < n) : ∀ f, halfF n f k = k
  | 0 => rfl
  | f + 1 => by unfold halfF; rw [if_neg h]
def itemName : ByteArray := ⟨#[105, 116, 101, 109]⟩
def noneName : ByteArray := ⟨#[110, 111, 110, 101]⟩
def joinName : ByteArray := ⟨#[106, 111, 105, 110]⟩
def setName : ByteArray := ⟨#[115, 101, 116]⟩
def itemOf (a : List UInt8) : List UInt8 := tagSum itemName [bs a]
def noneOf : List UInt8 := tagSum noneName []
def joinOf (a b : List UInt8) : List UInt8 := pairOf joinName a b
def wholeOf (n : Nat) (root : List UInt8) : List UInt8 := tagSum setName [bs (be 8 n), bs root]
theorem itemOf_length (a : List UInt8) : (itemOf a).length = 32 := tagSum_length _ _
theorem noneOf_length : noneOf.length = 32 := tagSum_length _ _
theorem joinOf_length (a b : List UInt8) : (joinOf a b).length = 32 := pairOf_length _ _ _
theorem wholeOf_length (n : Nat) (a : List UInt8) : (wholeOf n a).length = 32 := tagSum_length _ _
def rootF : Nat → List (List UInt8) → List UInt8
  | 0, _ => noneOf
  | f + 1, l => if l.length = 0 then noneOf else if l.length = 1 then itemOf (l.getD 0 []) else joinOf (rootF f (l.take (halfN l.length))) (rootF f (l.drop (halfN l.length)))
def rootL (l : List (List UInt8)) : List UInt8 := rootF l.length l
theorem rootF_fuel : ∀ (f g : Nat) (l : List (List UInt8)), l.length ≤ f → l.length ≤ g → rootF f l = rootF g l
  | 0, g, l, h1, h2 => by
    obtain rfl : l = [] := List.eq_nil_of_length_eq_zero (by omega)
    cases g <;> rfl
  | f + 1, 0, l, h1, h2 => by
    obtain rfl : l = [] := List.eq_nil_of_length_eq_zero (by omega)
    rfl
  | f + 1, g + 1, l, h1, h2 => by
    unfold rootF
    by_cases h0 : l.length = 0
    · rw [if_pos h0, if_pos h0]
    · by_cases h3 : l.length = 1
      · rw [if_neg h0, if_neg h0, if_pos h3, if_pos h3]
      · have hk := halfN_lt (show 2 ≤ l.length by omega)
        rw [if_neg h0, if_neg h0, if_neg h3, if_neg h3, rootF_fuel f g _ (by rw [List.length_take]; omega) (by rw [List.length_take]; omega), rootF_fuel f g (l.drop _) (by rw [List.length_drop]; omega) (by rw [List.length_drop]; omega)]
theorem rootL_none (l : List (List UInt8)) (h : l.length = 0) : rootL l = noneOf := by
  unfold rootL
  rw [h]
  rfl
theorem rootL_one (l : List (List UInt8)) (h : l.length = 1) : rootL l = itemOf (l.getD 0 []) := by
  unfold rootL
  rw [h]
  unfold rootF
  rw [if_neg (by omega), if_pos h]
theorem rootL_two (l : List (List UInt8)) (h : 2 ≤ l.length) : rootL l = joinOf (rootL (l.take (halfN l.length))) (rootL (l.drop (halfN l.length))) := by
  have hk := halfN_lt h
  obtain ⟨f, hf⟩ : ∃ f, l.length = f + 1 := ⟨l.length - 1, by omega⟩
  have e : rootL l = rootF (f + 1) l := by rw [rootL, hf]
  rw [e]
  unfold rootF
  rw [if_neg (by omega), if_neg (by omega), rootL, rootL, rootF_fuel f _ _ (by rw [List.length_take]; omega) (Nat.le_refl _), rootF_fuel f _ (l.drop _) (by rw [List.length_drop]; omega) (Nat.le_refl _)]
theorem rootF_length : ∀ f l, (rootF f l).length = 32
  | 0, _ => noneOf_length
  | f + 1, l => by
    unfold rootF
    split
    · exact noneOf_length
    · split
      · exact itemOf_length _
      · exact joinOf_length _ _
theorem rootL_length (l : List (List UInt8)) : (rootL l).length = 32 := rootF_length _ _
end Go.Proofs.YtabkaflccaklhaaGreat
