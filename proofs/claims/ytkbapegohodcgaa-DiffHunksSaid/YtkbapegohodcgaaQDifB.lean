/- hunk.Same where both are alike: contract. -/
import Derived.Test.YtkbapegohodcgaaQDifA
set_option linter.unusedSimpArgs false
set_option linter.unusedVariables false
namespace Go.Proofs.Ytkbapegohodcgaa
open Go.RowKit
open Go.Qk hiding rotr b4
set_option maxHeartbeats 1000000
set_option maxRecDepth 100000
theorem hunkSameEq (p : Int) (A1 B1 A2 B2 : Option Addr) (n m c1 d1 c2 d2 : Nat) (xs ys : List ByteArray) (w : World) (hA1 : StrRow w A1 xs) (hB1 : StrRow w B1 ys) (hA2 : StrRow w A2 xs) (hB2 : StrRow w B2 ys) (hn : xs.length = n) (hm : ys.length = m) :
    Calls Try.prog 94 #[.agg #[.int .i64 p, .slice A1 n c1, .slice B1 m d1], .agg #[.int .i64 p, .slice A2 n c2, .slice B2 m d2]] w fun e w' => e = .returned (.bool true) ∧ Below w.heap.size w w' := by
  have HA1 := hid hA1
  have HB1 := hid hB1
  have HA2 := hid hA2
  have HB2 := hid hB2
  clear hA1 hB1 hA2 hB2
  go_enter Try.func94, Try.ntmps94
  have HB := hid (grow_refl w)
  apply wp_seq_k; intro _ _; apply wp_region_lit
  refine op_boxC (cs := #[.int .i64 p, .slice A1 n c1, .slice B1 m d1]) rfl rfl rfl rfl ?_
  intro gx w1 hgl hgu hb hr
  have BXL := hid (Nat.le_trans HB.out.size hgl)
  replace HB := hid (Grow.trans HB.out hb)
  replace HA1 := hid (HA1.out.grow hb)
  replace HB1 := hid (HB1.out.grow hb)
  replace HA2 := hid (HA2.out.grow hb)
  replace HB2 := hid (HB2.out.grow hb)
  have BX := hid hr; have BXU := hid hgu
  clear hr hgl hgu hb
  try simp only [Act.put, List.setIfInBounds_toArray, List.set_cons_zero, List.set_cons_succ]
  refine op_boxC (cs := #[.int .i64 p, .slice A2 n c2, .slice B2 m d2]) rfl rfl rfl rfl ?_
  intro gy w2 hgl hgu hb hr
  have BYL := hid (Nat.le_trans HB.out.size hgl)
  replace HB := hid (Grow.trans HB.out hb)
  replace HA1 := hid (HA1.out.grow hb)
  replace HB1 := hid (HB1.out.grow hb)
  replace HA2 := hid (HA2.out.grow hb)
  replace HB2 := hid (HB2.out.grow hb)
  replace BX := hid (grow_block BX.out hb)
  have BY := hid hr; have BYU := hid hgu
  clear hr hgl hgu hb
  try simp only [Act.put, List.setIfInBounds_toArray, List.set_cons_zero, List.set_cons_succ]
  have x0 := blk_cell (i := 0) (v := Value.int .i64 p) BX.out rfl
  have y0 := blk_cell (i := 0) (v := Value.int .i64 p) BY.out rfl
  have x1 := blk_cell (i := 1) (v := Value.slice A1 n c1) BX.out rfl
  have y1 := blk_cell (i := 1) (v := Value.slice A2 n c2) BY.out rfl
  go_wp2_with fail
  refine (slicesEqualS A1 A2 n n c1 c2 xs xs _ HA1.out HA2.out hn hn).mono ?_
  rintro _ w1 ⟨rfl, hb⟩
  clear x0 y0 x1 y1
  replace HB := hid (Grow.trans HB.out hb)
  replace HA1 := hid (HA1.out.grow hb)
  replace HB1 := hid (HB1.out.grow hb)
  replace HA2 := hid (HA2.out.grow hb)
  replace HB2 := hid (HB2.out.grow hb)
  replace BX := hid (grow_block BX.out hb)
  replace BY := hid (grow_block BY.out hb)
  clear hb
  have hxx : decide (xs = xs) = true := by simp
  rw [hxx]
  have x2 := blk_cell (i := 2) (v := Value.slice B1 m d1) BX.out rfl
  have y2 := blk_cell (i := 2) (v := Value.slice B2 m d2) BY.out rfl
  go_wp2_with fail
  refine (slicesEqualS B1 B2 m m d1 d2 ys ys _ HB1.out HB2.out hm hm).mono ?_
  rintro _ w2 ⟨rfl, hb⟩
  clear x2 y2
  have hyy : decide (ys = ys) = true := by simp
  rw [hyy]
  have HBZ := hid (Grow.trans HB.out hb)
  clear hb
  go_wp2_with fail
  go_ret
  exact ⟨rfl, HBZ.out⟩
end Go.Proofs.Ytkbapegohodcgaa
