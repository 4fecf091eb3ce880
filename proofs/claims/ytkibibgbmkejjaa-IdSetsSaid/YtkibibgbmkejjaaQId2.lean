import Derived.Test.YtkibibgbmkejjaaQId1
import Derived.Test.YtkibibgbmkejjaaQShaH
import Derived.Lib.BytesEntry
import Derived.Laws.Externs
set_option linter.unusedSimpArgs false
set_option linter.unusedVariables false
namespace Go.Proofs.Ytkibibgbmkejjaa
open Go.RowKit
open Go.Qk
set_option maxHeartbeats 1000000
set_option maxRecDepth 100000
theorem bytesOf_b8 (l : List UInt8) : Lib.bytesOf (l.map fun b => (b.toNat : Int)) = l := by
  induction l with
  | nil => rfl
  | cons a l ih =>
    show (a.toNat : Int).toNat.toUInt8 :: Lib.bytesOf (l.map fun b => (b.toNat : Int)) = a :: l
    rw [ih]
    simp
theorem run_load8 (l : List UInt8) (a : Addr) (w : World) (h : ∀ j, j < l.length → w.cell? (a.add j) = some (.int .u8 (b8 l j))) :
    (Extern.Bytes.loadBytes a l.length .empty).run Try.prog w = .ok (bs l) w := by
  have := Lib.run_loadBytesX (P := Try.prog) w (l.map fun b => (b.toNat : Int)) a .empty (fun j x hj => by
    have hjl : j < l.length := by
      have := (List.getElem?_eq_some_iff.1 hj).1
      simpa using this
    rw [h j hjl]
    simp [hjl] at hj
    simp [b8, hjl, hj])
  rw [List.length_map, bytesOf_b8] at this
  rw [this]
  congr 1
  apply ByteArray.ext
  simp [bs]
theorem run_cmp (l m : List UInt8) (a b : Addr) (c d : Nat) (w : World) (h1 : ∀ j, j < l.length → w.cell? (a.add j) = some (.int .u8 (b8 l j))) (h2 : ∀ j, j < m.length → w.cell? (b.add j) = some (.int .u8 (b8 m j))) :
    (Extern.BytealgCompare.compare #[.slice (some a) l.length c, .slice (some b) m.length d]).run Try.prog w = .ok (.int .i64 (Lib.compareBytes l m)) w := by
  change Sem.run Try.prog (do pure (goInt (Extern.BytealgCompare.cmp (← Extern.Bytes.bytesOf (.slice (some a) l.length c)) (← Extern.Bytes.bytesOf (.slice (some b) m.length d))))) w = _
  simp only [Extern.Bytes.bytesOf, Sem.run_bind, Sem.run_pure, run_load8 l a w h1, run_load8 m b w h2, Result.andThen]
  rw [Lib.cmp_eq]
  rfl
theorem cmp_less : ∀ (l m : List UInt8), l.length = m.length → decide (Lib.compareBytes l m < 0) = lexLess l m
  | [], [], _ => rfl
  | a :: l, b :: m, h => by
    have ih := cmp_less l m (by simpa using h)
    unfold Lib.compareBytes lexLess
    by_cases h1 : a < b
    · have : a ≠ b := by rintro rfl; simp at h1
      simp [h1, this]
    · by_cases h2 : b < a
      · have : a ≠ b := by rintro rfl; simp at h1 h2
        simp [h1, h2, this]
      · have : a = b := by
          rw [UInt8.lt_iff_toNat_lt] at h1 h2
          exact UInt8.toNat_inj.1 (by omega)
        subst this
        simp [h1, ih]
theorem bytesCompare (l m : List UInt8) (a b : Addr) (c d : Nat) (w : World) (h1 : ∀ j, j < l.length → w.cell? (a.add j) = some (.int .u8 (b8 l j))) (h2 : ∀ j, j < m.length → w.cell? (b.add j) = some (.int .u8 (b8 m j))) :
    Calls Try.prog 140 #[.slice (some a) l.length c, .slice (some b) m.length d] w fun e w' => e = .returned (.int .i64 (Lib.compareBytes l m)) ∧ Below w.heap.size w w' := by
  go_enter Try.func140, Try.ntmps140
  go_wp2
  rw [run_callFunc_extern Try.func152 (by kernel_rfl) (by kernel_rfl) (by kernel_rfl) (e := Extern.BytealgCompare.compare) (by kernel_rfl), run_cmp l m a b c d w h1 h2]
  simp only [Result.andThen]
  rw [Oper.upon_value]
  go_wp2
  go_ret
  exact ⟨rfl, Below.refl _ _⟩
theorem idCompare (l m : List UInt8) (hl : l.length = 32) (hm : m.length = 32) (w : World) :
    Calls Try.prog 99 #[idV l, idV m] w fun e w' => e = .returned (.int .i64 (Lib.compareBytes l m)) ∧ Below w.heap.size w w' := by
  unfold idV
  go_enter Try.func99, Try.ntmps99
  go_wp2_with fail
  have HG1 := hid (show ((w.alloc (.cells (u8s l).toArray 23)).alloc (.cells (u8s m).toArray 23)).heap[w.heap.size]? = some (.cells (u8s l).toArray 23 (0, 0)) from heap_alloc2_old _ _ _)
  have HG2 := hid (show ((w.alloc (.cells (u8s l).toArray 23)).alloc (.cells (u8s m).toArray 23)).heap[w.heap.size + 1]? = some (.cells (u8s m).toArray 23 (0, 0)) from heap_alloc2_new _ _ _)
  have HB := hid (show Grow w ((w.alloc (.cells (u8s l).toArray 23)).alloc (.cells (u8s m).toArray 23)) from ((grow_refl _).alloc' _).alloc' _)
  generalize ((w.alloc (.cells (u8s l).toArray 23)).alloc (.cells (u8s m).toArray 23)) = W at *
  (refine' wp_region_head 4 0 [_, _, _, _] rfl (by kernel_rfl) (by kernel_rfl) ?hreg1; case' hreg1 => simp only [List.take_succ_cons, List.take_zero, List.zip_cons_cons, List.zip_nil_right, List.drop_succ_cons, List.drop_zero, List.drop_nil])
  (iterate 2 (refine' head_val ?_ ?_ ?_ ?_; rotate_left; (· rfl); (· first | exact fun _ _ _ => trivial | (intro t ht w; cases ht; simp [upE])); (· intro w' hw' _; go_simp; with_reducible rfl); simp only [Act.put, List.setIfInBounds_toArray, List.set_cons_zero, List.set_cons_succ]))
  (refine' head_call ?cw2 ?ce2 ?cr2 ?cc2 ?ch2; (case' cw2 => rfl); (case' ce2 => (first | exact fun _ _ _ => trivial | (intro t ht w; cases ht; simp [upE]))); (case' cr2 => (intro w'; go_simp; first | exact ⟨rfl, rfl⟩ | with_reducible rfl)); (case' cc2 => (intro w' hw' _; exact by have := bytesCompare l m ⟨w.heap.size, 0, none⟩ ⟨w.heap.size + 1, 0, none⟩ 32 32 w' (fun j hj => by rw [addr_add]; exact cell_u8 HG1.out hw' j hj) (fun j hj => by rw [addr_add]; exact cell_u8 HG2.out hw' j hj); rw [hl, hm] at this; exact this)); (case' ch2 => (try simp only [Act.put, List.setIfInBounds_toArray, List.set_cons_zero, List.set_cons_succ])))
  (iterate 1 (refine' head_val ?_ ?_ ?_ ?_; rotate_left; (· rfl); (· first | exact fun _ _ _ => trivial | (intro t ht w; cases ht; simp [upE])); (· intro w' hw' _; go_simp; with_reducible rfl); simp only [Act.put, List.setIfInBounds_toArray, List.set_cons_zero, List.set_cons_succ]))
  refine head_nil ?_
  intro w1 hw1 _
  refine wpList_nil ?_
  go_wp2
  go_ret
  exact ⟨rfl, HB.out.trans hw1⟩
theorem idLess (l m : List UInt8) (hl : l.length = 32) (hm : m.length = 32) (w : World) :
    Calls Try.prog 23 #[idV l, idV m] w fun e w' => e = .returned (.bool (lexLess l m)) ∧ Below w.heap.size w w' := by
  have HL := hid (cmp_less l m (by omega))
  unfold idV
  go_enter Try.func23, Try.ntmps23
  go_upto_region 1 with (fail)
  have HG1 := hid (show ((w.alloc (.cells (u8s l).toArray 23)).alloc (.cells (u8s m).toArray 23)).heap[w.heap.size]? = some (.cells (u8s l).toArray 23 (0, 0)) from heap_alloc2_old _ _ _)
  have HG2 := hid (show ((w.alloc (.cells (u8s l).toArray 23)).alloc (.cells (u8s m).toArray 23)).heap[w.heap.size + 1]? = some (.cells (u8s m).toArray 23 (0, 0)) from heap_alloc2_new _ _ _)
  have HB := hid (show Grow w ((w.alloc (.cells (u8s l).toArray 23)).alloc (.cells (u8s m).toArray 23)) from ((grow_refl _).alloc' _).alloc' _)
  generalize ((w.alloc (.cells (u8s l).toArray 23)).alloc (.cells (u8s m).toArray 23)) = W at *
  go_wp2_with (first | (refine wpList_load_agg rfl 23 (.tmp 2) rfl ⟨w.heap.size, 0, none⟩ rfl (u8s l) _ (cells_block (tl := []) (by rw [List.append_nil]; exact HG1.out)) Try.underlying23 rfl (by rw [szId, u8s_length, hl]) ?_) | (refine wpList_load_agg rfl 23 (.tmp 3) rfl ⟨w.heap.size + 1, 0, none⟩ rfl (u8s m) _ (cells_block (tl := []) (by rw [List.append_nil]; exact HG2.out)) Try.underlying23 rfl (by rw [szId, u8s_length, hm]) ?_))
  refine (idCompare l m hl hm _).mono ?_
  rintro e w1 ⟨rfl, hb⟩
  have HB1 := hid (HB.out.trans hb)
  clear hb
  go_wp2
  go_ret
  exact ⟨ret_bool HL.out, HB1.out⟩
end Go.Proofs.Ytkibibgbmkejjaa
