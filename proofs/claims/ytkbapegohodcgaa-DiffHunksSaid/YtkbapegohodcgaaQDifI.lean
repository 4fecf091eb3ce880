/- quitclaimref11.Right: contract. -/
import Derived.Test.YtkbapegohodcgaaQDifH
set_option linter.unusedSimpArgs false
set_option linter.unusedVariables false
namespace Go.Proofs.Ytkbapegohodcgaa
open Go.RowKit
open Go.Qk hiding rotr b4
set_option maxHeartbeats 4000000
set_option maxRecDepth 100000
def hkRightB (p : Int) (xs ys : List ByteArray) : Bool := decide (0 ≤ p) && (decide (p ≤ 1000) && (linesB xs && (linesB ys && (decide (0 < xs.length) || decide (0 < ys.length)))))
theorem refHkRight (p : Int) (A B : Option Addr) (n m c d : Nat) (xs ys : List ByteArray) (w : World) (hx : StrRow w A xs) (hy : StrRow w B ys) (hn : xs.length = n) (hm : ys.length = m) (hsa : ∀ s ∈ xs, s.size ≤ 9223372036854775807) (hsb : ∀ s ∈ ys, s.size ≤ 9223372036854775807) :
    Calls Try.prog 100 #[.agg #[.int .i64 p, .slice A n c, .slice B m d]] w fun e w' => e = .returned (.bool (hkRightB p xs ys)) ∧ Below w.heap.size w w' := by
  have HX := hid hx
  have HY := hid hy
  have HN := hid hn
  have HM := hid hm
  have HSA := hid hsa
  have HSB := hid hsb
  have n9 : (n : Int) ≤ 9223372036854775807 := by have := hx.1; omega
  have m9 : (m : Int) ≤ 9223372036854775807 := by have := hy.1; omega
  clear hx hy hn hm hsa hsb
  go_enter Try.func100, Try.ntmps100
  have HB := hid (grow_refl w)
  apply wp_seq_k; intro _ _; apply wp_region_lit
  refine op_boxC (cs := #[.int .i64 p, .slice A n c, .slice B m d]) rfl rfl rfl rfl ?_
  intro gx w1 hgl hgu hb hr
  have BXL := hid (Nat.le_trans HB.out.size hgl)
  replace HB := hid (Grow.trans HB.out hb)
  replace HX := hid (HX.out.grow hb)
  replace HY := hid (HY.out.grow hb)
  have BX := hid hr; have BXU := hid hgu
  clear hr hgl hgu hb
  try simp only [Act.put, List.setIfInBounds_toArray, List.set_cons_zero, List.set_cons_succ]
  have x0 := blk_cell (i := 0) (v := Value.int .i64 p) BX.out rfl
  have x1 := blk_cell (i := 1) (v := Value.slice A n c) BX.out rfl
  have x2 := blk_cell (i := 2) (v := Value.slice B m d) BX.out rfl
  by_cases h0 : 0 ≤ p
  case neg =>
    have HR := hid (show hkRightB p xs ys = false by unfold hkRightB; simp [h0])
    have h0' : ¬ (0 : Int) ≤ p := h0
    go_wp2_with fail
    go_ret
    exact ⟨by rw [HR.out]; rfl, HB.out⟩
  by_cases h1 : p ≤ 1000
  case neg =>
    have HR := hid (show hkRightB p xs ys = false by unfold hkRightB; simp [h1])
    go_wp2_with fail
    go_ret
    exact ⟨by rw [HR.out]; rfl, HB.out⟩
  have HR0 := hid (show hkRightB p xs ys = (linesB xs && (linesB ys && (decide (0 < n) || decide (0 < m)))) by unfold hkRightB; simp [h0, h1, HN.out, HM.out])
  go_wp2_with fail
  refine (refLines A n c xs _ HX.out HN.out HSA.out).mono ?_
  rintro _ w2 ⟨rfl, hb⟩
  clear x0 x1 x2
  replace HB := hid (Grow.trans HB.out hb)
  replace HX := hid (HX.out.grow hb)
  replace HY := hid (HY.out.grow hb)
  replace BX := hid (grow_block BX.out hb)
  clear hb
  by_cases hl1 : linesB xs = true
  case neg =>
    have hl1' : linesB xs = false := by simpa using hl1
    rw [hl1']
    have HR := hid (show hkRightB p xs ys = false by rw [HR0.out, hl1']; rfl)
    clear hl1 hl1'
    go_wp2_with fail
    go_ret
    exact ⟨by rw [HR.out]; rfl, HB.out⟩
  rw [hl1] at HR0 ⊢
  clear hl1
  have x2 := blk_cell (i := 2) (v := Value.slice B m d) BX.out rfl
  go_wp2_with fail
  refine (refLines B m d ys _ HY.out HM.out HSB.out).mono ?_
  rintro _ w3 ⟨rfl, hb⟩
  clear x2
  replace HB := hid (Grow.trans HB.out hb)
  replace HX := hid (HX.out.grow hb)
  replace HY := hid (HY.out.grow hb)
  replace BX := hid (grow_block BX.out hb)
  clear hb
  by_cases hl2 : linesB ys = true
  case neg =>
    have hl2' : linesB ys = false := by simpa using hl2
    rw [hl2']
    have HR := hid (show hkRightB p xs ys = false by rw [HR0.out, hl2']; rfl)
    clear hl2 hl2'
    go_wp2_with fail
    go_ret
    exact ⟨by rw [HR.out]; rfl, HB.out⟩
  rw [hl2] at HR0 ⊢
  clear hl2
  have x1 := blk_cell (i := 1) (v := Value.slice A n c) BX.out rfl
  have x2 := blk_cell (i := 2) (v := Value.slice B m d) BX.out rfl
  by_cases hn0 : 0 < n
  · have hn1 : (0 : Int) < (n : Int) := by omega
    have HR := hid (show hkRightB p xs ys = true by rw [HR0.out]; simp [hn0])
    go_wp2_with fail
    go_ret
    exact ⟨by rw [HR.out]; rfl, HB.out⟩
  · obtain rfl : n = 0 := by omega
    by_cases hm0 : 0 < m
    · have hm1 : (0 : Int) < (m : Int) := by omega
      have HR := hid (show hkRightB p xs ys = true by rw [HR0.out]; simp [hm0])
      go_wp2_with fail
      go_ret
      exact ⟨by rw [HR.out]; rfl, HB.out⟩
    · obtain rfl : m = 0 := by omega
      have HR := hid (show hkRightB p xs ys = false by rw [HR0.out]; simp)
      go_wp2_with fail
      go_ret
      exact ⟨by rw [HR.out]; rfl, HB.out⟩
end Go.Proofs.Ytkbapegohodcgaa
