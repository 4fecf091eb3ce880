import Derived.Test.YtkibibgbmkejjaaQShaP
import Derived.Test.YtkibibgbmkejjaaQMem
set_option linter.unusedSimpArgs false
set_option linter.unusedVariables false
namespace Go.Proofs.Ytkibibgbmkejjaa
open Go.RowKit
open Go.Qk hiding rotr b4
attribute [local go_sem ↓ high] add_w32 and_w32 or_w32 xor_w32 shr_w32 shl_w32 shr3_w32 shr10_w32 shr8_w32 shr16_w32 shr24_w32 shl8_w32
attribute [local go_sem high] not_w32 max_xor_w32

set_option maxHeartbeats 400000
set_option maxRecDepth 100000
theorem szState : (Try.prog.info? 159).map (·.size) = some 8 := by kernel_rfl
theorem szWords : (Try.prog.info? 175).map (·.size) = some 64 := by kernel_rfl
def zeros (n : Nat) : List UInt32 := List.replicate n 0
theorem zeros_length (n : Nat) : (zeros n).length = n := by simp [zeros]

theorem shaBegin (w : World) :
    Calls Try.prog 153 #[] w fun e w' => e = .returned (.agg (u32s shaH).toArray) ∧ Below w.heap.size w w' := by
  go_enter Try.func153, Try.ntmps153
  apply wp_seq_k; intro _ _; apply wp_region_lit
  refine wpList_val (v := .pointer (some ⟨w.heap.size, 0, none⟩)) (w' := w.alloc (.cells (u32s (zeros 8)).toArray 159)) rfl (by kernel_rfl) ?_
  have hg0 : (w.alloc (.cells (u32s (zeros 8)).toArray 159)).heap[w.heap.size]? = some (.cells (u32s (zeros 8)).toArray 159 (0, 0)) := heap_alloc_new _ _
  have hb0 : Below w.heap.size w (w.alloc (.cells (u32s (zeros 8)).toArray 159)) := (Below.refl _ _).alloc (Nat.le_refl _) _
  generalize w.alloc (.cells (u32s (zeros 8)).toArray 159) = W at *
  have HG := hid hg0
  have HB := hid hb0
  clear hg0 hb0
  simp only [Act.put, List.setIfInBounds_toArray, List.set_cons_zero, List.set_cons_succ]
  refine wpList_nil ?_
  go_upto_region 1 with (fail)
  apply wp_region_lit
  refine wpList_val (v := .agg (u32s shaH).toArray) (w' := W) rfl (by kernel_rfl) ?_
  simp only [Act.put, List.setIfInBounds_toArray, List.set_cons_zero, List.set_cons_succ]
  refine wpList_store_agg rfl rfl 159 (.tmp 0) (.tmp 1) rfl w.heap.size 0 rfl (u32s shaH) rfl _ _ HG.out szState (by simp [u32s_length, zeros_length]; decide) (u32s_one _) ?_
  have hg1 := heap_setRow_same (cs := ((u32s (zeros 8)).toArray.toList.take 0 ++ u32s shaH ++ (u32s (zeros 8)).toArray.toList.drop (0 + (u32s shaH).length)).toArray) HG.out
  have e1 : ((u32s (zeros 8)).toArray.toList.take 0 ++ u32s shaH ++ (u32s (zeros 8)).toArray.toList.drop (0 + (u32s shaH).length)) = u32s shaH := by rfl
  rw [e1] at hg1 ⊢
  have HG1 := hid hg1
  have HB1 := hid (below_setRow' HB.out (Nat.le_refl _) (u32s shaH).toArray)
  clear hg1 e1
  generalize W.setRow w.heap.size (u32s shaH).toArray = W1 at *
  refine wpList_nil ?_
  go_wp2
  refine bodyPost_ret (v := .agg (u32s shaH).toArray) (results_cell_row rfl _ _ w.heap.size 159 _ (0, 0) _ rfl HG1.out Try.underlying159 rfl (by rw [szState]; rfl)) rfl ⟨rfl, HB1.out⟩
theorem shaConstants (w : World) :
    Calls Try.prog 169 #[] w fun e w' => e = .returned (.agg (u32s shaK).toArray) ∧ Below w.heap.size w w' := by
  go_enter Try.func169, Try.ntmps169
  apply wp_seq_k; intro _ _; apply wp_region_lit
  refine wpList_val (v := .pointer (some ⟨w.heap.size, 0, none⟩)) (w' := w.alloc (.cells (u32s (zeros 64)).toArray 175)) rfl (by kernel_rfl) ?_
  have hg0 : (w.alloc (.cells (u32s (zeros 64)).toArray 175)).heap[w.heap.size]? = some (.cells (u32s (zeros 64)).toArray 175 (0, 0)) := heap_alloc_new _ _
  have hb0 : Below w.heap.size w (w.alloc (.cells (u32s (zeros 64)).toArray 175)) := (Below.refl _ _).alloc (Nat.le_refl _) _
  generalize w.alloc (.cells (u32s (zeros 64)).toArray 175) = W at *
  have HG := hid hg0
  have HB := hid hb0
  clear hg0 hb0
  simp only [Act.put, List.setIfInBounds_toArray, List.set_cons_zero, List.set_cons_succ]
  refine wpList_nil ?_
  go_upto_region 1 with (fail)
  apply wp_region_lit
  refine wpList_val (v := .agg (u32s shaK).toArray) (w' := W) rfl (by kernel_rfl) ?_
  simp only [Act.put, List.setIfInBounds_toArray, List.set_cons_zero, List.set_cons_succ]
  refine wpList_store_agg rfl rfl 175 (.tmp 0) (.tmp 1) rfl w.heap.size 0 rfl (u32s shaK) rfl _ _ HG.out szWords (by simp [u32s_length, zeros_length]; decide) (u32s_one _) ?_
  have hg1 := heap_setRow_same (cs := ((u32s (zeros 64)).toArray.toList.take 0 ++ u32s shaK ++ (u32s (zeros 64)).toArray.toList.drop (0 + (u32s shaK).length)).toArray) HG.out
  have e1 : ((u32s (zeros 64)).toArray.toList.take 0 ++ u32s shaK ++ (u32s (zeros 64)).toArray.toList.drop (0 + (u32s shaK).length)) = u32s shaK := by rfl
  rw [e1] at hg1 ⊢
  have HG1 := hid hg1
  have HB1 := hid (below_setRow' HB.out (Nat.le_refl _) (u32s shaK).toArray)
  clear hg1 e1
  generalize W.setRow w.heap.size (u32s shaK).toArray = W1 at *
  refine wpList_nil ?_
  go_wp2
  refine bodyPost_ret (v := .agg (u32s shaK).toArray) (results_cell_row rfl _ _ w.heap.size 175 _ (0, 0) _ rfl HG1.out Try.underlying175 rfl (by rw [szWords]; rfl)) rfl ⟨rfl, HB1.out⟩
end Go.Proofs.Ytkibibgbmkejjaa
