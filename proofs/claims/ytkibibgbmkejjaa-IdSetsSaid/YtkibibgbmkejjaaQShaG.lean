import Derived.Test.YtkibibgbmkejjaaQShaF
import Derived.Test.YtkibibgbmkejjaaQShelf
set_option linter.unusedSimpArgs false
set_option linter.unusedVariables false
namespace Go.Proofs.Ytkibibgbmkejjaa
open Go.RowKit
open Go.Qk hiding rotr b4

set_option maxHeartbeats 1000000
set_option maxRecDepth 100000
theorem repeatL_zero (c : Nat) : Lib.repeatL [(0 : UInt8)] c = List.replicate c 0 := by
  induction c with
  | zero => rfl
  | succ c ih => rw [Lib.repeatL, ih]; rfl
/-- Zeros, so many. -/
theorem repeat0 (c : Nat) (hc : c ≤ 1000) (w : World) :
    Calls Try.prog 171 #[.string ⟨#[0]⟩, .int .i64 c] w fun e w' => e = .returned (.string (bs (List.replicate c 0))) ∧ Below w.heap.size w w' := by
  rcases Nat.lt_or_ge c 2 with h | h
  · rcases (show c = 0 ∨ c = 1 by omega) with rfl | rfl
    · exact (Try.strings_Repeat_zero ⟨#[0]⟩ w).mono fun e w' ⟨h1, h2⟩ => by subst h2; exact ⟨h1, Below.refl _ _⟩
    · exact (Try.strings_Repeat_one ⟨#[0]⟩ w).mono fun e w' ⟨h1, h2⟩ => by subst h2; exact ⟨h1, Below.refl _ _⟩
  · refine (Try.strings_Repeat_main ⟨#[0]⟩ c w h (by omega) (by show 1 * c ≤ _; omega) (by decide)).mono fun e w' ⟨h1, h2⟩ => ⟨?_, h2⟩
    rw [h1, show (⟨#[0]⟩ : ByteArray).data.toList = [(0 : UInt8)] from rfl, repeatL_zero]
    rfl
/-- What stands behind so many bytes. -/
def padOf (n : Nat) : List UInt8 := 128 :: (List.replicate ((119 - n % 64) % 64) 0 ++ be 8 (n * 8))
theorem shaPad (n : Nat) (hn : n ≤ 140737488355328) (w : World) :
    Calls Try.prog 155 #[.int .i64 n] w fun e w' => e = .returned (.string (bs (padOf n))) ∧ Below w.heap.size w w' := by
  have H1 := hid (show (119 - (n : Int)) % 64 = (((119 - n % 64) % 64 : Nat) : Int) by omega)
  have h3 : 0 ≤ 119 - (n : Int) % 64 := by omega
  go_enter Try.func155, Try.ntmps155
  go_wp2_with fail
  rw [show (n : Int) * 8 = ((n * 8 : Nat) : Int) from by omega]
  refine (number8 (n * 8) (by omega) _).mono ?_
  rintro e w1 ⟨rfl, hb⟩
  have HB1 := hid hb
  clear hb
  go_wp2_with fail
  rw [H1.out]
  refine (repeat0 ((119 - n % 64) % 64) (by omega) _).mono ?_
  rintro e w2 ⟨rfl, hb⟩
  have HB2 := hid (Grow.trans HB1.out hb)
  clear hb
  have hcat : (⟨#[128]⟩ : ByteArray) ++ bs (List.replicate ((119 - n % 64) % 64) 0) = bs (128 :: List.replicate ((119 - n % 64) % 64) 0) := bs_append [128] _
  have hcat2 : bs (128 :: List.replicate ((119 - n % 64) % 64) 0) ++ bs (be 8 (n * 8)) = bs (padOf n) := by rw [bs_append]; rfl
  have hz1 : (bs (List.replicate ((119 - n % 64) % 64) 0)).size ≤ 64 := by rw [bs_size, List.length_replicate]; omega
  have hz2 : (bs (128 :: List.replicate ((119 - n % 64) % 64) 0)).size ≤ 65 := by rw [bs_size, List.length_cons, List.length_replicate]; omega
  have hz3 : (bs (be 8 (n * 8))).size ≤ 8 := by rw [bs_size, be_length]; omega
  have hz4 : (⟨#[128]⟩ : ByteArray).size ≤ 1 := by decide
  generalize bs (128 :: List.replicate ((119 - n % 64) % 64) 0) = y at *
  generalize bs (List.replicate ((119 - n % 64) % 64) 0) = z at *
  generalize bs (be 8 (n * 8)) = q at *
  generalize hp : bs (padOf n) = p at *
  have HP := hid hp
  clear hp H1 h3
  go_wp2
  go_ret
  exact ⟨by rw [HP.out]; rfl, HB2.out⟩
theorem padOf_length (n : Nat) : (padOf n).length ≤ 73 := by simp [padOf, be_length]; omega
end Go.Proofs.Ytkibibgbmkejjaa
