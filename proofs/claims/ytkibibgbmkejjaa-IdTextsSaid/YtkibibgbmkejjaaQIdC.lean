import Derived.Test.YtkibibgbmkejjaaQIdB
set_option linter.unusedSimpArgs false
set_option linter.unusedVariables false
namespace Go.Proofs.Ytkibibgbmkejjaa
open Go.RowKit
open Go.Qk
set_option maxRecDepth 100000
theorem dvalDigF : ∀ n : Fin 16, dval (dig n.val) = ((n.val : Nat) : Int) := by decide +kernel
theorem dvalDig (n : Nat) (h : n < 16) : dval (dig n) = n := dvalDigF ⟨n, h⟩
theorem hexAll_even : ∀ (l : List UInt8) (i : Nat), i < l.length → (l.flatMap hex1).getD (2 * i) 0 = dig ((l.getD i 0).toNat / 16)
  | a :: l, 0, _ => rfl
  | a :: l, i + 1, h => by
    have ih := hexAll_even l i (by simpa using h)
    rw [List.flatMap_cons, hex1, show 2 * (i + 1) = 2 * i + 1 + 1 from by omega]
    simpa using ih
theorem hexAll_odd : ∀ (l : List UInt8) (i : Nat), i < l.length → (l.flatMap hex1).getD (2 * i + 1) 0 = dig ((l.getD i 0).toNat % 16)
  | a :: l, 0, _ => rfl
  | a :: l, i + 1, h => by
    have ih := hexAll_odd l i (by simpa using h)
    rw [List.flatMap_cons, hex1, show 2 * (i + 1) + 1 = 2 * i + 1 + 1 + 1 from by omega]
    simpa using ih
theorem hex_parse (l : List UInt8) (hl : l.length = 32) : parseOk (hexOf l 32) = true ∧ parse (hexOf l 32) = l := by
  have hH : hexOf l 32 = l.flatMap hex1 := by rw [hexOf, List.take_of_length_le (by omega)]
  have hlen := hexOf_length l 32 (by omega)
  have he : ∀ i, i < 32 → dval ((hexOf l 32).getD (2 * i) 0) = (((l.getD i 0).toNat / 16 : Nat) : Int) := fun i hi => by
    have := (l.getD i 0).toNat_lt
    rw [hH, hexAll_even l i (by omega), dvalDig _ (by omega)]
  have ho : ∀ i, i < 32 → dval ((hexOf l 32).getD (2 * i + 1) 0) = (((l.getD i 0).toNat % 16 : Nat) : Int) := fun i hi => by
    have := (l.getD i 0).toNat_lt
    rw [hH, hexAll_odd l i (by omega), dvalDig _ (by omega)]
  have hok : parseOk (hexOf l 32) = true := by
    rw [parseOk, hlen, Bool.and_eq_true]
    refine ⟨rfl, List.all_eq_true.2 fun i hi => ?_⟩
    have hi' := List.mem_range.1 hi
    rw [pairOk, he i hi', ho i hi']
    simp
    omega
  refine ⟨hok, ?_⟩
  rw [parse, hok, if_pos rfl]
  apply List.ext_getElem
  · rw [parseTo_length, hl]
  · intro i h1 h2
    have hi' : i < 32 := by omega
    simp only [parseTo, List.getElem_map, List.getElem_range]
    rw [pairB, he i hi', ho i hi']
    have e : l.getD i 0 = l[i] := by simp [h2]
    rw [e]
    have := l[i].toNat_lt
    apply UInt8.toNat_inj.1
    rw [UInt8.toNat_ofNat']
    simp only [Int.toNat_natCast]
    omega
theorem parse_ok_errno (l : List UInt8) : (parseErr l == 0) = parseOk l := by
  unfold parseErr
  cases parseOk l <;> rfl
end Go.Proofs.Ytkibibgbmkejjaa
