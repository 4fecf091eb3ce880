import Derived.Test.YtkibibgbmkejjaaProg
import Derived.Test.YtkibibgbmkejjaaQBase
import Derived.WalkSpells
import Derived.WalkLawsBesides
import Derived.Deep.QuietTactic
import Derived.BigQuiet
import Derived.Deep.LoopGhost
import Derived.Deep.RegionWith
import Derived.Deep.DeepCutAuto
import Derived.Deep.CutBlock
import Derived.Deep.DeepFit
set_option linter.unusedSimpArgs false
set_option linter.unusedVariables false
namespace Go.Proofs.Ytkibibgbmkejjaa
open Go.RowKit Go.Qk

set_option maxHeartbeats 400000
set_option maxRecDepth 100000
theorem refLess (a b : List UInt8) (ha : a.length = 32) (hb : b.length = 32) (w : World) :
    Calls Try.prog 24 #[idV a, idV b] w fun e w' => e = .returned (.bool (lexLess a b)) ∧ Below w.heap.size w w' := by
  unfold idV
  go_enter Try.func24, Try.ntmps24
  go_wp2
  have hg1 : ((w.alloc (.cells (u8s a).toArray 23)).alloc (.cells (u8s b).toArray 23)).heap[w.heap.size]? = some (.cells (u8s a).toArray 23 (0, 0)) := heap_alloc2_old _ _ _
  have hg2 : ((w.alloc (.cells (u8s a).toArray 23)).alloc (.cells (u8s b).toArray 23)).heap[w.heap.size + 1]? = some (.cells (u8s b).toArray 23 (0, 0)) := heap_alloc2_new _ _ _
  have hb0 : Grow w ((w.alloc (.cells (u8s a).toArray 23)).alloc (.cells (u8s b).toArray 23)) := ((grow_refl _).alloc' _).alloc' _
  generalize ((w.alloc (.cells (u8s a).toArray 23)).alloc (.cells (u8s b).toArray 23)) = W at *
  have HG1 := hid hg1
  have HG2 := hid hg2
  have HB0 := hid hb0
  clear hg1 hg2 hb0
  go_loopg [5] 32 (fun n i wr => ∃ k : Nat, k ≤ 32 ∧ n = 32 - k ∧ i = .int .i64 k ∧ Hid (a.take k = b.take k) ∧ Hid (Grow W wr))
  case atStart => exact ⟨0, by omega, by omega, rfl, rfl, Below.refl _ _⟩
  case round =>
    obtain ⟨k, hk, hn, rfl, hab, hW⟩ := hrel
    by_cases hlt : k < 32
    · have k0 : (0 : Int) ≤ (k : Int) := by omega
      have c1 : ∀ w', Grow wr w' → w'.cell? ⟨w.heap.size, k, none⟩ = some (.int .u8 (b8 a k)) := fun w' hw' => cell_u8 HG1.out (hW.out.trans hw') k (by omega)
      have c2 : ∀ w', Grow wr w' → w'.cell? ⟨w.heap.size + 1, k, none⟩ = some (.int .u8 (b8 b k)) := fun w' hw' => cell_u8 HG2.out (hW.out.trans hw') k (by omega)
      go_wp2
      (refine' wp_region_head 7 0 [_, _, _, _, _, _, _] rfl (by kernel_rfl) (by kernel_rfl) ?hreg1; case' hreg1 => simp only [List.take_succ_cons, List.take_zero, List.zip_cons_cons, List.zip_nil_right, List.drop_succ_cons, List.drop_zero, List.drop_nil])
      (iterate 7 (refine' head_val ?_ ?_ ?_ ?_; rotate_left; (· rfl); (· first | exact fun _ _ _ => trivial | (intro t ht w; cases ht; simp [upE])); (· intro w' hw' _; go_simp; with_reducible rfl); simp only [Act.put, List.setIfInBounds_toArray, List.set_cons_zero, List.set_cons_succ]))
      refine head_nil ?_
      intro w1 hw1 _
      refine wpList_nil ?_
      by_cases he : a.getD k 0 = b.getD k 0
      · have t1 : (b8 a k != b8 b k) = false := by simpa using (b8_eq a b k).2 he
        have HE := hid he
        clear he c1 c2
        go_wp2
        go_roundg (32 - (k + 1))
        case rel => exact ⟨k + 1, by omega, rfl, by go_num, take_step (by omega) (by omega) hab.out HE.out, hW.out.trans hw1⟩
        case measure => omega
      · have t1 : (b8 a k != b8 b k) = true := by simpa using fun h => he ((b8_eq a b k).1 h)
        have HE := hid he
        have c3 : ∀ w', Grow w1 w' → w'.cell? ⟨w.heap.size, k, none⟩ = some (.int .u8 (b8 a k)) := fun w' hw' => c1 w' (hw1.trans hw')
        have c4 : ∀ w', Grow w1 w' → w'.cell? ⟨w.heap.size + 1, k, none⟩ = some (.int .u8 (b8 b k)) := fun w' hw' => c2 w' (hw1.trans hw')
        clear he c1 c2
        go_wp2
        (refine' wp_region_head 8 0 [_, _, _, _, _, _, _, _] rfl (by kernel_rfl) (by kernel_rfl) ?hreg2; case' hreg2 => simp only [List.take_succ_cons, List.take_zero, List.zip_cons_cons, List.zip_nil_right, List.drop_succ_cons, List.drop_zero, List.drop_nil])
        (iterate 8 (refine' head_val ?_ ?_ ?_ ?_; rotate_left; (· rfl); (· first | exact fun _ _ _ => trivial | (intro t ht w; cases ht; simp [upE])); (· intro w' hw' _; go_simp; with_reducible rfl); simp only [Act.put, List.setIfInBounds_toArray, List.set_cons_zero, List.set_cons_succ]))
        refine head_nil ?_
        intro w2 hw2 _
        refine wpList_nil ?_
        go_wp2
        go_ret
        refine ⟨ret_bool ?_, HB0.out.trans ((hW.out.trans hw1).trans hw2)⟩
        rw [lexLess_at k a b (by omega) (by omega) hab.out HE.out]
        simp [b8_lt]
    · obtain rfl : k = 32 := by omega
      go_wp2
      go_ret
      refine ⟨ret_bool ?_, HB0.out.trans hW.out⟩
      have h := hab.out
      rw [List.take_of_length_le (by omega), List.take_of_length_le (by omega)] at h
      rw [h, lexLess_self]
end Go.Proofs.Ytkibibgbmkejjaa
