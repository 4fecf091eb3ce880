/- The chapter's example of merkle; the law MerkleSums. -/
import Derived.Test.YtffgifegaagndaaQMer5
set_option linter.unusedSimpArgs false
set_option linter.unusedVariables false
namespace Go.Proofs.Ytffgifegaagndaa
open Go.RowKit
open Go.Qk hiding rotr b4
set_option maxHeartbeats 1000000
set_option maxRecDepth 100000
section
variable {ops : Array Oper} {Q : Exit → Act → World → Prop} {rest : List Oper} {o : Oper} {a : Act} {w : World}
theorem op_rowIds3 {l1 l2 l3 : List UInt8} {y1 y2 y3 : Operand} (hgd : o.guard = none) (ho : o.op = .buildSlice 24 3 #[(0, y1), (1, y2), (2, y3)]) (h1 : a.eval y1 = idV l1) (h2 : a.eval y2 = idV l2) (h3 : a.eval y3 = idV l3) (hl1 : l1.length = 32) (hl2 : l2.length = 32) (hl3 : l3.length = 32)
    (h : ∀ ad W, Grow w W → IdRow W (some ad) [l1, l2, l3] → wpList Try.prog ops Q rest (a.put o.dst (.slice (some ad) 3 3)) W) : wpList Try.prog ops Q (o :: rest) a w := by
  have h32 : ∀ s ∈ [l1, l2, l3], s.length = 32 := fun s hs => by simp at hs; rcases hs with hs | hs | hs <;> rw [hs] <;> assumption
  have hr := run_buildIds w [l1, l2, l3] 3 rfl (by omega) (by omega) h32
  have hp : #[(0, y1), (1, y2), (2, y3)].map (fun (i, y) => (i, a.eval y)) = ((([l1, l2, l3].map idV).zipIdx 0).map Prod.swap).toArray := by simp [h1, h2, h3]
  refine wpList_val (v := .slice (some ⟨w.heap.size, 0, none⟩) 3 3) (w' := w.alloc (.cells (idCells [l1, l2, l3]).toArray 23)) hgd ?_ (h _ _ (grow_alloc _ _) (cells_idRow h32 (by simp) (fun j u hj => cells_new w _ _ j u hj)))
  unfold execOp
  simp only [ho, hp, Sem.run_bind, Sem.run_pure, Result.andThen_ok, hr]
end
def ids123 : List (List UInt8) := [id1 1, id1 2, id1 3]
theorem ids123_32 : ∀ s ∈ ids123, s.length = 32 := by decide +kernel
theorem ids123_rises : risesB ids123 = true := by decide +kernel
theorem awake21 (w : World) : Calls Try.prog 41 #[] w fun e w' => e = .returned (.bool true) ∧ Below w.heap.size w w' := by
  have HP3 := hid (fun A w (h : IdRow w A ids123) => mkProveIn A 3 3 2 ids123 (id1 3) w h rfl (Nat.le_refl _) ids123_32 rfl (by omega) ids123_rises (by decide +kernel) (by omega) rfl)
  have HP1 := hid (fun A w (h : IdRow w A ids123) => mkProveIn A 3 3 0 ids123 (id1 1) w h rfl (Nat.le_refl _) ids123_32 rfl (by omega) ids123_rises (by decide +kernel) (by omega) rfl)
  have HW3 := hid (show (wayL ids123 2).length = 1 by decide +kernel)
  have HW1 := hid (show (wayL ids123 0).length = 2 by decide +kernel)
  go_enter Try.func41, Try.ntmps41
  have HB := hid (grow_refl w)
  go_wp2_with (first | (refine opG_build1 rfl rfl ?_) | (refine opG_build2 rfl rfl ?_) | (refine opG_build3 rfl rfl ?_) | (refine op_rowIds3 (l1 := id1 1) (l2 := id1 2) (l3 := id1 3) rfl rfl rfl rfl rfl rfl rfl rfl ?_))
  intro ad w1 hb hr
  have R := hid (show IdRow w1 (some ad) ids123 from hr)
  replace HB := hid (Grow.trans HB.out hb)
  clear hb
  clear hr
  go_wp2_with (first | (refine opG_build3 rfl rfl ?_) | fail)
  refine (HP3.out _ _ R.out).mono ?_
  rintro e w52 ⟨gp1, WA1, m1, wc1, rfl, _, hg1, _, hm1, hb⟩
  obtain rfl : m1 = 1 := by rw [← hm1]; exact HW3.out
  have G1 := hid hg1
  replace HB := hid (Grow.trans HB.out hb)
  replace R := hid (R.out.grow hb)
  clear hb
  clear hg1 hm1
  go_wp2_with (first | (refine op_allocC (z := undef) (cs := #[.int .i64 0, .slice none 0 0]) rfl rfl (fun w => by kernel_rfl) ?_) | fail)
  intro g2 w53 hgl hgu hb hr
  have HGL := hid hgl
  have HBW := hid hb
  have P2 := hid hr
  clear hr hgu hb hgl
  go_wp2_with (refine store_block 63 _ _ g2 0 [.int .i64 (3 : Int), .slice (some ⟨gp1, 0, none⟩) 1 1] [.int .i64 0, .slice none 0 0] [.int .i64 (3 : Int), .slice (some ⟨gp1, 0, none⟩) 1 1] 63 rfl rfl rfl rfl rfl P2.out (by rw [infoProof]; rfl) (by simp) (by intro v hv; simp at hv; rcases hv with rfl | rfl <;> rfl) (by simp) ?_)
  intro w54 hz hgb hbz
  have hG : Grow w52 w54 := hbz _ _ HBW.out HGL.out
  have P2' := hid hz
  clear hz hgb hbz P2 HBW HGL
  have P2 := P2'
  clear P2'
  replace HB := hid (Grow.trans HB.out hG)
  replace R := hid (R.out.grow hG)
  replace G1 := hid (grow_block G1.out hG)
  clear hG
  go_wp2_with (first | (refine opG_build1 rfl rfl ?_) | fail)
  refine (HP1.out _ _ R.out).mono ?_
  rintro e w62 ⟨gp2, WA2, m2, wc2, rfl, _, hg1, _, hm1, hb⟩
  obtain rfl : m2 = 2 := by rw [← hm1]; exact HW1.out
  have G2 := hid hg1
  replace HB := hid (Grow.trans HB.out hb)
  replace R := hid (R.out.grow hb)
  replace G1 := hid (grow_block G1.out hb)
  replace P2 := hid (grow_block P2.out hb)
  clear hb
  clear hg1 hm1
  go_wp2_with (first | (refine op_allocC (z := undef) (cs := #[.int .i64 0, .slice none 0 0]) rfl rfl (fun w => by kernel_rfl) ?_) | fail)
  intro g4 w63 hgl hgu hb hr
  have HGL := hid hgl
  have HBW := hid hb
  have P4 := hid hr
  clear hr hgu hb hgl
  go_wp2_with (refine store_block 63 _ _ g4 0 [.int .i64 (3 : Int), .slice (some ⟨gp2, 0, none⟩) 1 1] [.int .i64 0, .slice none 0 0] [.int .i64 (3 : Int), .slice (some ⟨gp2, 0, none⟩) 1 1] 63 rfl rfl rfl rfl rfl P4.out (by rw [infoProof]; rfl) (by simp) (by intro v hv; simp at hv; rcases hv with rfl | rfl <;> rfl) (by simp) ?_)
  intro w64 hz hgb hbz
  have hG : Grow w62 w64 := hbz _ _ HBW.out HGL.out
  have P4' := hid hz
  clear hz hgb hbz P4 HBW HGL
  have P4 := P4'
  clear P4'
  replace HB := hid (Grow.trans HB.out hG)
  replace R := hid (R.out.grow hG)
  replace G1 := hid (grow_block G1.out hG)
  replace P2 := hid (grow_block P2.out hG)
  replace G2 := hid (grow_block G2.out hG)
  clear hG
  have c1 : w64.cell? ⟨g2, 1, none⟩ = some (.slice (some ⟨gp1, 0, none⟩) 1 1) := by simp [World.cell?, P2.out]
  have c2 : w64.cell? ⟨gp1, 33, none⟩ = some (.slice WA1 1 wc1) := by simp only [World.cell?, G1.out, Option.isSome_none]; rfl
  have c3 : w64.cell? ⟨g4, 1, none⟩ = some (.slice (some ⟨gp2, 0, none⟩) 1 1) := by simp [World.cell?, P4.out]
  have c4 : w64.cell? ⟨gp2, 33, none⟩ = some (.slice WA2 2 wc2) := by simp only [World.cell?, G2.out, Option.isSome_none]; rfl
  go_wp2_with fail
  go_ret
  exact ⟨rfl, HB.out⟩
end Go.Proofs.Ytffgifegaagndaa
