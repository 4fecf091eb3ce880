import Derived.Test.YtkibibgbmkejjaaQTag
set_option linter.unusedSimpArgs false
set_option linter.unusedVariables false
namespace Go.Proofs.Ytkibibgbmkejjaa
open Go.RowKit Go.Qk

set_option maxHeartbeats 400000
set_option maxRecDepth 100000
theorem awake03 (w : World) :
    Calls Try.prog 38 #[] w fun e w' => e = .returned (.bool true) ∧ Below w.heap.size w w' := by
  have hE : bs (textOf ⟨#[97]⟩ [⟨#[98, 99]⟩]) = ⟨#[1, 97, 0, 0, 0, 0, 0, 0, 0, 2, 98, 99]⟩ := by decide +kernel
  have HE := hid hE
  clear hE
  go_enter Try.func38, Try.ntmps38
  go_wp2_with fail
  refine (tagText ⟨#[97]⟩ _ _ _ [⟨#[98, 99]⟩] _ ⟨by decide, fun _ => ⟨_, rfl, fun i hi => ?hc⟩⟩ rfl (by decide) (by decide)).mono ?_
  case hc =>
    obtain rfl : i = 0 := by simp at hi; omega
    exact cell_of_row _ _ 0 _ _ _ (heap_alloc_new _ _)
  rintro e w' ⟨rfl, hb⟩
  rw [HE.out]
  have HB := hid (below_grow ((Below.refl w.heap.size w).alloc (Nat.le_refl _) _) (by simp) hb)
  clear hb
  go_wp2
  go_ret
  exact ⟨rfl, HB.out⟩

theorem long03 (A : Option Addr) (n c : Nat) (xs : List ByteArray) (w : World) (hx : StrRow w A xs) (hn : xs.length = n) (hsz : ∀ s ∈ xs, s.size ≤ 9223372036854775807) :
    Calls Try.prog 37 #[.slice A n c] w fun e w' => e = .returned (.bool (longB xs)) ∧ Below w.heap.size w w' := by
  subst hn
  have HX := hid hx
  have hxl := hx.1
  have HSZ := hid hsz
  clear hx hsz
  go_enter Try.func37, Try.ntmps37
  go_wp2
  go_loopg [7] (xs.length + 1) (fun n i wr => ∃ k : Nat, k ≤ xs.length ∧ n = xs.length - k + 1 ∧ i = .int .i64 k ∧ Hid ((xs.take k).any (fun s => decide (300 < s.size)) = false) ∧ Hid (Grow w wr))
  case atStart => exact ⟨0, by omega, by omega, rfl, rfl, Below.refl _ _⟩
  case round =>
    obtain ⟨k, hk, hn, rfl, hF, hB⟩ := hrel
    by_cases hlt : k < xs.length
    · have k0 : (0 : Int) ≤ (k : Int) := by omega
      have k1 : (k : Int) < (xs.length : Int) := by omega
      obtain ⟨ad, rfl, hc⟩ := HX.out.at_ k hlt
      have hc' : wr.cell? (ad.add k) = some (.string (xs.getD k ByteArray.empty)) := grow_cell hc hB.out
      clear hc
      have hg : xs.getD k ByteArray.empty ∈ xs := by simp [hlt]
      have hs1 := HSZ.out _ hg
      have HG := hid hg
      have ht : xs.take (k + 1) = xs.take k ++ [xs.getD k ByteArray.empty] := by rw [List.take_succ_eq_append_getElem hlt]; simp [hlt]
      have HT := hid ht
      clear hg ht
      generalize xs.getD k ByteArray.empty = s at *
      by_cases h3 : 300 < s.size
      · have h4 : decide ((300 : Int) < (s.size : Int)) = true := by simp; omega
        go_wp2
        go_ret
        refine ⟨ret_bool ?_, hB.out⟩
        unfold longB
        rw [List.any_eq_true.2 ⟨s, HG.out, by simpa using h3⟩, Bool.true_or]
      · have h4 : decide ((300 : Int) < (s.size : Int)) = false := by simp; omega
        go_wp2
        go_roundg (xs.length - (k + 1) + 1)
        case rel =>
          refine ⟨k + 1, by omega, rfl, by go_num, hid ?_, hB⟩
          rw [HT.out, List.any_append, hF.out]
          simp
          omega
        case measure => omega
    · go_wp2
      go_ret
      refine ⟨ret_bool ?_, hB.out⟩
      have h := hF.out
      rw [List.take_of_length_le (by omega)] at h
      unfold longB
      rw [h]
      simp
      omega

end Go.Proofs.Ytkibibgbmkejjaa
