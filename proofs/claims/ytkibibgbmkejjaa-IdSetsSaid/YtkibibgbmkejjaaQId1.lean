import Derived.Test.YtkibibgbmkejjaaQRefB
set_option linter.unusedSimpArgs false
set_option linter.unusedVariables false
namespace Go.Proofs.Ytkibibgbmkejjaa
open Go.RowKit
open Go.Qk
set_option maxHeartbeats 1000000
set_option maxRecDepth 100000
/-- An id's bytes, by the document. -/
theorem ref3Bytes (l : List UInt8) (hl : l.length = 32) (w : World) :
    Calls Try.prog 27 #[idV l] w fun e w' => e = .returned (.string (bs l)) ∧ Below w.heap.size w w' := by
  unfold idV
  go_enter Try.func27, Try.ntmps27
  go_wp2_with fail
  have HG := hid (show (w.alloc (.cells (u8s l).toArray 23)).heap[w.heap.size]? = some (.cells (u8s l).toArray 23 (0, 0)) from heap_alloc_new _ _)
  go_loopg [3, 4] 33 (fun q v i wr => ∃ k : Nat, k ≤ 32 ∧ q = 33 - k ∧ i = .int .i64 k ∧ Hid (Buf 5 (w.heap.size + 1) wr v (l.take k)) ∧ Hid (Below (w.heap.size + 1) (w.alloc (.cells (u8s l).toArray 23)) wr) ∧ Hid (w.heap.size + 1 ≤ wr.heap.size))
  case atStart =>
    have := buf_alloc (w.alloc (.cells (u8s l).toArray 23)) 5 [] 0 rfl (by decide)
    refine ⟨0, by omega, rfl, rfl, hid (by simpa [u8s] using this), hid ((Below.refl _ _).alloc (by simp) _), hid (by simp)⟩
  case round =>
    obtain ⟨k, hk, hq, rfl, hO, hB, hL⟩ := hrel
    by_cases hlt : k < 32
    · have n0 : (0 : Int) ≤ (k : Int) := by omega
      have n1 : (k : Int) < 32 := by omega
      have hc : wr.cell? ⟨w.heap.size, k, none⟩ = some (.int .u8 (b8 l k)) := by
        have h1 := cell_u8 HG.out (grow_refl _) k (by omega)
        exact (hB.out.cell (show w.heap.size < w.heap.size + 1 by omega)).trans h1
      have HT := hid (show l.take (k + 1) = l.take k ++ [l.getD k 0] by rw [List.take_succ_eq_append_getElem (by omega)]; simp [show k < l.length by omega])
      have hlen : (l.take k).length = k := by rw [List.length_take]; omega
      have HLN := hid hlen
      go_wp2_with (at_builtin; refine app_cells (w0 := w.alloc (.cells (u8s l).toArray 23)) (B := w.heap.size + 1) (.tmp 10) (.tmp 14) 112 5 (.int .u8 0) 1 1 _ (l.take k).length (u8s (l.take k)) [.int .u8 (b8 l k)] ⟨wr.heap.size, 0, none⟩ 1 1 rfl rfl Try.underlying112 infoU8 rfl (by decide) rfl rfl rfl ?h2 ?h3 ?h1 ?h4 ?h6 ?h5 ?h7 ?_)
      case h2 => exact cell_one_new _ _ _
      case h3 => simp [Value.oneCell']
      case h1 => exact World.ownsRow.alloc hO.out _
      case h4 => exact hB.out.alloc hL.out _
      case h6 => have := hL.out; simp; omega
      case h5 => have := HLN.out; omega
      case h7 => have := HLN.out; omega
      intro v' w5 hown hb5 hs5
      have hown' : Buf 5 (w.heap.size + 1) w5 v' (l.take (k + 1)) := by
        unfold Buf
        rw [HT.out, u8s_append]
        rw [show (l.take k ++ [l.getD k 0]).length = (l.take k).length + 1 from by simp, HLN.out]
        exact hown
      have HO5 := hid hown'
      have HB5 := hid hb5
      have HS5 := hid hs5
      clear hown hown' hb5 hs5
      go_wp2
      go_roundg (33 - (k + 1))
      case rel => exact ⟨k + 1, by omega, rfl, by go_num, HO5, HB5, HS5⟩
      case measure => omega
    · obtain rfl : k = 32 := by omega
      have hcv := buf_str (P := Try.prog) 112 5 9 Try.underlying112 Try.underlying5 Try.underlying9 _ _ hO.out
      rw [List.take_of_length_le (by omega)] at hcv
      go_wp2
      go_ret
      refine ⟨rfl, ?_⟩
      exact Below.grown (a := w) ((Below.refl w.heap.size w).alloc (Nat.le_refl _) _) (grownBy_grow (show Grow (w.alloc (.cells (u8s l).toArray 23)) wr from by unfold Grow; simpa using hB.out) none) (by simp) (fun k hk => by cases hk)
end Go.Proofs.Ytkibibgbmkejjaa
