/- quitclaimlaw12.long: contract. -/
import Derived.Test.YtkbapegohodcgaaQDif2
set_option linter.unusedSimpArgs false
set_option linter.unusedVariables false
namespace Go.Proofs.Ytkbapegohodcgaa
open Go.RowKit
open Go.Qk hiding rotr b4
set_option maxHeartbeats 1000000
set_option maxRecDepth 100000
def farB (s : ByteArray) : Bool := decide (300 < s.size)
def longB (xs : List ByteArray) : Bool := decide (40 < xs.length) || xs.any farB
theorem any_take_step {α : Type} (p : α → Bool) (xs : List α) (d : α) (k : Nat) (h : k < xs.length) : (xs.take (k + 1)).any p = ((xs.take k).any p || p (xs.getD k d)) := by
  rw [List.take_succ_eq_append_getElem h, List.any_append]
  simp [h]
theorem any_true_at {α : Type} (p : α → Bool) (xs : List α) (d : α) (k : Nat) (h : k < xs.length) (hp : p (xs.getD k d) = true) : xs.any p = true := by
  rw [List.any_eq_true]
  exact ⟨xs.getD k d, by simp [h], hp⟩
theorem law12Long (ad : Addr) (n c : Nat) (xss : List (List ByteArray)) (w : World) (hn : xss.length = n) (hn9 : n ≤ 1000)
    (hrow : ∀ k, k < n → ∃ A d, w.cell? (ad.add k) = some (.slice A (xss.getD k []).length d) ∧ StrRow w A (xss.getD k []) ∧ ∀ s ∈ xss.getD k [], s.size ≤ 9223372036854775807) :
    Calls Try.prog 49 #[.slice (some ad) n c] w fun e w' => e = .returned (.bool (xss.any longB)) ∧ Below w.heap.size w w' := by
  subst hn
  have HR := hid hrow
  clear hrow
  go_enter Try.func49, Try.ntmps49
  have HB := hid (grow_refl w)
  go_wp2_with fail
  go_loopg [9] (xss.length + 1) (fun z i wr => ∃ k : Nat, k ≤ xss.length ∧ z = xss.length + 1 - k ∧ i = .int .i64 (k : Int) ∧ Hid ((xss.take k).any longB = false) ∧ Hid (Grow w wr))
  case atStart => exact ⟨0, by omega, by omega, rfl, hid (by simp), HB⟩
  case round =>
    clear HB
    obtain ⟨k, hk, hz, rfl, HS, HB⟩ := hrel
    by_cases hlt : k < xss.length
    · have k0 : (0 : Int) ≤ (k : Int) := by omega
      have k1 : (k : Int) < (xss.length : Int) := by omega
      obtain ⟨A, d, hc0, hs, hsa⟩ := HR.out k hlt
      have hc := grow_cell hc0 HB.out
      clear hc0
      have HX := hid (hs.grow HB.out)
      have hx9 := hs.1
      have HSA := hid hsa
      clear hs hsa
      have HF := hid (any_true_at longB xss [] k hlt)
      have HT := hid (any_take_step longB xss [] k hlt)
      generalize xss.getD k [] = xs at *
      by_cases h40 : 40 < xs.length
      · have HF2 := hid (show xss.any longB = true from HF.out (by unfold longB; simp [h40]))
        clear HF HT
        go_wp2_with fail
        go_ret
        exact ⟨ret_bool HF2.out.symm, HB.out⟩
      · have h40' : xs.length ≤ 40 := by omega
        clear h40
        go_wp2_with fail
        go_loopg [18] (xs.length + 1) (fun z i wr2 => ∃ j : Nat, j ≤ xs.length ∧ z = xs.length + 1 - j ∧ i = .int .i64 (j : Int) ∧ Hid ((xs.take j).any farB = false) ∧ wr2 = wr)
        case atStart => exact ⟨0, by omega, by omega, rfl, hid (by simp), rfl⟩
        case round =>
          obtain ⟨j, hj, hz2, rfl, HS2, rfl⟩ := hrel
          by_cases hjt : j < xs.length
          · have j0 : (0 : Int) ≤ (j : Int) := by omega
            have j1 : (j : Int) < (xs.length : Int) := by omega
            obtain ⟨bd, rfl, hd⟩ := HX.out.at_ j hjt
            have hb9 := HSA.out (xs.getD j ByteArray.empty) (by simp [hjt])
            have HF3 := hid (any_true_at farB xs ByteArray.empty j hjt)
            have HT3 := hid (any_take_step farB xs ByteArray.empty j hjt)
            generalize xs.getD j ByteArray.empty = s at *
            by_cases h3 : 300 < s.size
            · have HF4 := hid (show xss.any longB = true from HF.out (by unfold longB; rw [HF3.out (by unfold farB; simp [h3])]; simp))
              clear HF HT HF3 HT3
              go_wp2_with fail
              go_ret
              exact ⟨ret_bool HF4.out.symm, HB.out⟩
            · have HS3 := hid (show (xs.take (j + 1)).any farB = false by rw [HT3.out, HS2.out]; unfold farB; simp; omega)
              clear HF3 HT3
              go_wp2_with fail
              go_roundg (xs.length + 1 - (j + 1))
              case rel => exact ⟨j + 1, by omega, rfl, by go_num, HS3, rfl⟩
              case measure => omega
          · obtain rfl : j = xs.length := by omega
            rw [List.take_length] at HS2
            have HS3 := hid (show (xss.take (k + 1)).any longB = false by rw [HT.out, HS.out]; unfold longB; rw [HS2.out]; simp; omega)
            clear HF HT
            go_wp2_with fail
            go_roundg (xss.length + 1 - (k + 1))
            case rel => exact ⟨k + 1, by omega, rfl, by go_num, HS3, HB⟩
            case measure => omega
    · obtain rfl : k = xss.length := by omega
      rw [List.take_length] at HS
      go_wp2_with fail
      go_ret
      exact ⟨ret_bool HS.out.symm, HB.out⟩
end Go.Proofs.Ytkbapegohodcgaa
