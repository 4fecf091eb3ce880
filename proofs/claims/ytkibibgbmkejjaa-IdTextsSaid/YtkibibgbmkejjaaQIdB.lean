import Derived.Test.YtkibibgbmkejjaaQIdA
set_option linter.unusedSimpArgs false
set_option linter.unusedVariables false
namespace Go.Proofs.Ytkibibgbmkejjaa
open Go.RowKit
open Go.Qk
set_option maxHeartbeats 1000000
set_option maxRecDepth 100000
def idOf (l : List UInt8) : List UInt8 := if l.length = 32 then l else zero8 32
def idErr (l : List UInt8) : Int := if l.length = 32 then 0 else 3
theorem idOf_length (l : List UInt8) : (idOf l).length = 32 := by unfold idOf; split <;> simp_all [zero8]
theorem szU8 : ∀ w, (Go.sizeOf 5).run Try.prog w = .ok 1 w := fun _ => by kernel_rfl
theorem idBytes (l : List UInt8) (hsz : l.length ≤ 1000000) (w : World) :
    Calls Try.prog 26 #[.string (bs l)] w fun e w' => e = .returned (.tuple #[idV (idOf l), .int .i64 (idErr l)]) ∧ Below w.heap.size w w' := by
  have hs := bs_size l
  go_enter Try.func26, Try.ntmps26
  apply wp_seq_k; intro _ _; apply wp_region_lit
  refine wpList_val (v := .pointer (some ⟨w.heap.size, 0, none⟩)) (w' := w.alloc (.cells (u8s (zero8 32)).toArray 23)) rfl (by kernel_rfl) ?_
  have hg0 : (w.alloc (.cells (u8s (zero8 32)).toArray 23)).heap[w.heap.size]? = some (.cells (u8s (zero8 32)).toArray 23 (0, 0)) := heap_alloc_new _ _
  have hb0 : Grow w (w.alloc (.cells (u8s (zero8 32)).toArray 23)) := grow_alloc _ _
  generalize w.alloc (.cells (u8s (zero8 32)).toArray 23) = W at *
  have HW := hid hg0
  have HB := hid hb0
  have HWL := hid (show w.heap.size < W.heap.size from (Array.getElem?_eq_some_iff.1 hg0).1)
  clear hg0 hb0
  simp only [Act.put, List.setIfInBounds_toArray, List.set_cons_zero, List.set_cons_succ]
  refine wpList_val (v := .int .i64 0) (w' := W) rfl (by kernel_rfl) ?_
  simp only [Act.put, List.setIfInBounds_toArray, List.set_cons_zero, List.set_cons_succ]
  refine wpList_nil ?_
  go_upto_region 1 with (fail)
  apply wp_region_lit
  refine wpList_val (v := .pointer (some ⟨W.heap.size, 0, none⟩)) (w' := W.alloc (.cells (u8s (zero8 32)).toArray 23)) rfl (by kernel_rfl) ?_
  have hg1 : (W.alloc (.cells (u8s (zero8 32)).toArray 23)).heap[W.heap.size]? = some (.cells (u8s (zero8 32)).toArray 23 (0, 0)) := heap_alloc_new _ _
  have hb1 : Grow W (W.alloc (.cells (u8s (zero8 32)).toArray 23)) := grow_alloc _ _
  generalize W.alloc (.cells (u8s (zero8 32)).toArray 23) = W1 at *
  have HG4 := hid hg1
  have HG2 := hid (grow_block HW.out hb1)
  have HB1 := hid (HB.out.trans hb1)
  clear hg1 hb1 HW HB
  generalize W.heap.size = g4 at *
  simp only [Act.put, List.setIfInBounds_toArray, List.set_cons_zero, List.set_cons_succ]
  refine wpList_nil ?_
  by_cases h32 : l.length = 32
  · have HE := hid (show idOf l = l by rw [idOf, if_pos h32])
    have HE2 := hid (show idErr l = 0 by rw [idErr, if_pos h32])
    go_wp2_with (refine copy_text (.tmp 9) (.tmp 10) 112 9 5 g4 32 32 l (u8s (zero8 32)) 23 rfl rfl Try.underlying112 szU8 rfl rfl (by omega) HG4.out (by rw [u8s_length]; simp [zero8, h32]) ?_)
    intro W2 hc2 hg2 hb2
    have HC2 := hid hc2
    have HG3 := hid ((hg2.block w.heap.size (Array.getElem?_eq_some_iff.1 HG2.out).1 (by have := HWL.out; intro e; injection e with e; omega)).trans HG2.out)
    have HB2 := hid (hb2 _ _ HB1.out (Nat.le_of_lt HWL.out))
    clear hc2 hg2 hb2 HG4 HG2 HB1
    go_wp2_with (first | (refine wpList_load_agg rfl 23 (.tmp 4) rfl ⟨g4, 0, none⟩ rfl (u8s l) _ (fun j v h => by rw [addr_add]; exact HC2.out j v h) Try.underlying23 rfl (by rw [szId, u8s_length, h32]) ?_) | (refine store_block 23 (.tmp 2) (.tmp 12) w.heap.size 0 (u8s l) (u8s (zero8 32)) (u8s l) 23 rfl rfl rfl rfl rfl HG3.out (by rw [szId, u8s_length, h32]) ?c1D (u8s_one _) ?c2D ?_))
    case c1D => simp [u8s_length, zero8, h32]
    case c2D => simp [u8s_length, h32, zero8]
    intro W6 hw6 _ hb6
    have HB6 := hid (hb6 _ _ HB2.out (Nat.le_refl _))
    have HR6 := hid hw6
    clear hw6 hb6
    go_wp2_with fail
    refine bodyPost_ret (results_row_tmp rfl _ _ w.heap.size 23 _ (0, 0) _ rfl HR6.out Try.underlying23 rfl (by rw [szId]; simp [u8s_length, h32])) rfl ⟨?_, HB6.out⟩
    rw [HE.out, HE2.out]
    rfl
  · have hn32 : ((l.length : Int) != 32) = true := by simp; omega
    have HE := hid (show idOf l = zero8 32 by rw [idOf, if_neg h32])
    have HE2 := hid (show idErr l = 3 by rw [idErr, if_neg h32])
    go_wp2_with (first | (refine wpList_valop (.build 23 #[]) rfl (v := .agg (u8s (zero8 32)).toArray) (w' := W1) rfl (by kernel_rfl) ?_) | (refine store_block 23 (.tmp 2) (.tmp 8) w.heap.size 0 (u8s (zero8 32)) (u8s (zero8 32)) (u8s (zero8 32)) 23 rfl rfl rfl rfl rfl HG2.out (by rw [szId, u8s_length]; rfl) ?c1C (u8s_one _) ?c2C ?_))
    case c1C => simp [u8s_length, zero8]
    case c2C => simp [u8s_length, zero8]
    intro W6 hw6 _ hb6
    have HB6 := hid (hb6 _ _ HB1.out (Nat.le_refl _))
    have HR6 := hid hw6
    clear hw6 hb6
    go_wp2_with fail
    refine bodyPost_ret (results_row_tmp rfl _ _ w.heap.size 23 _ (0, 0) _ rfl HR6.out Try.underlying23 rfl (by rw [szId]; simp [u8s_length, zero8])) rfl ⟨?_, HB6.out⟩
    rw [HE.out, HE2.out]
    rfl
end Go.Proofs.Ytkibibgbmkejjaa
