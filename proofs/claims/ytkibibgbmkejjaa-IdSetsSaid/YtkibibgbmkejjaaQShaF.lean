import Derived.Test.YtkibibgbmkejjaaQShaE
set_option linter.unusedSimpArgs false
set_option linter.unusedVariables false
namespace Go.Proofs.Ytkibibgbmkejjaa
open Go.RowKit
open Go.Qk hiding rotr b4

set_option maxHeartbeats 1000000
set_option maxRecDepth 100000
/-- A hash in memory. -/
def hashCells (h : List UInt32) (rest : ByteArray) (n : Int) : Array Value := (u32s h ++ [Value.string rest, Value.int .i64 n]).toArray
def IsHash (w : World) (g : Nat) (h : List UInt32) (rest : ByteArray) (n : Int) : Prop := w.heap[g]? = some (.cells (hashCells h rest n) 162 (0, 0))

theorem shaNew (w : World) :
    Calls Try.prog 141 #[] w fun e w' => ∃ g, e = .returned (.pointer (some ⟨g, 0, none⟩)) ∧ w.heap.size ≤ g ∧ IsHash w' g shaH (bs []) 0 ∧ Below w.heap.size w w' := by
  go_enter Try.func141, Try.ntmps141
  go_wp2_with fail
  refine (shaBegin _).mono ?_
  rintro e W1 ⟨rfl, hb⟩
  go_wp2_with (refine wpList_valop (.build 162 #[(0, .tmp 1)]) rfl (v := .agg (hashCells shaH (bs []) 0)) (w' := W1) rfl (by kernel_rfl) ?_)
  go_ret
  exact ⟨W1.heap.size, rfl, hb.size, heap_alloc_new _ _, Below.alloc hb hb.size _⟩

theorem hash_cell8 {h : List UInt32} {rest : ByteArray} {n : Int} {w : World} {g : Nat} (hh : h.length = 8) (hg : IsHash w g h rest n) : w.cell? ⟨g, 8, none⟩ = some (.string rest) := by
  rw [cell_of_row _ _ _ _ _ _ hg]
  simp [hashCells, List.getElem?_append_right (show (u32s h).length ≤ 8 by rw [u32s_length]; omega), u32s_length, hh]
theorem hash_cell9 {h : List UInt32} {rest : ByteArray} {n : Int} {w : World} {g : Nat} (hh : h.length = 8) (hg : IsHash w g h rest n) : w.cell? ⟨g, 9, none⟩ = some (.int .i64 n) := by
  rw [cell_of_row _ _ _ _ _ _ hg]
  simp [hashCells, List.getElem?_append_right (show (u32s h).length ≤ 9 by rw [u32s_length]; omega), u32s_length, hh]
theorem hash_free {h : List UInt32} {rest : ByteArray} {n : Int} {w : World} {g : Nat} (hg : IsHash w g h rest n) (j : Nat) : w.frozen? ⟨g, j, none⟩ = false := frozen_of_row w g j _ _ hg
theorem hash_set9 {h : List UInt32} {rest : ByteArray} {n : Int} {w : World} {g : Nat} (hh : h.length = 8) (hg : IsHash w g h rest n) (m : Int) : IsHash (w.setCell ⟨g, 9, none⟩ (.int .i64 m)) g h rest m := by
  have h2 := heap_setCell_same w g 9 _ _ (.int .i64 m) hg
  unfold IsHash
  rw [h2]
  have e : (hashCells h rest n).setIfInBounds 9 (.int .i64 m) = hashCells h rest m := by
    unfold hashCells
    rw [List.setIfInBounds_toArray, List.set_append_right _ _ (by rw [u32s_length]; omega)]
    simp [u32s_length, hh]
  rw [e]
theorem hash_set8 {h : List UInt32} {rest : ByteArray} {n : Int} {w : World} {g : Nat} (hh : h.length = 8) (hg : IsHash w g h rest n) (r : ByteArray) : IsHash (w.setCell ⟨g, 8, none⟩ (.string r)) g h r n := by
  have h2 := heap_setCell_same w g 8 _ _ (.string r) hg
  unfold IsHash
  rw [h2]
  have e : (hashCells h rest n).setIfInBounds 8 (.string r) = hashCells h r n := by
    unfold hashCells
    rw [List.setIfInBounds_toArray, List.set_append_right _ _ (by rw [u32s_length]; omega)]
    simp [u32s_length, hh]
  rw [e]
theorem hash_grow {h : List UInt32} {rest : ByteArray} {n : Int} {w w' : World} {g : Nat} (hg : IsHash w g h rest n) (hw : Grow w w') : IsHash w' g h rest n := grow_block hg hw

/-- The state when so many blocks are in. -/
def blocks (h : List UInt32) (l : List UInt8) : Nat → List UInt32
  | 0 => h
  | k + 1 => shaAdd (blocks h l k) ((l.drop (64 * k)).take 64)
theorem blocks_length (h : List UInt32) (l : List UInt8) (hh : h.length = 8) : ∀ k, (blocks h l k).length = 8
  | 0 => hh
  | k + 1 => shaAdd_length _ _

def feed (h : List UInt32) (l : List UInt8) : List UInt32 := blocks h l (l.length / 64)
def restOf (l : List UInt8) : List UInt8 := l.drop (64 * (l.length / 64))
theorem shaWrite (g : Nat) (h : List UInt32) (r m : List UInt8) (n : Nat) (hh : h.length = 8) (hsz : r.length + m.length ≤ 140737488355328) (hn : n ≤ 140737488355328) (w : World) (hg : IsHash w g h (bs r) n) :
    Calls Try.prog 142 #[.pointer (some ⟨g, 0, none⟩), .string (bs m)] w fun e w' => e = .returned (.int .i64 m.length) ∧
      IsHash w' g (feed h (r ++ m)) (bs (restOf (r ++ m))) ((n + m.length : Nat) : Int) ∧ w.grownBy w' (some g) := by
  have HG := hid hg
  have HH := hid hh
  have hms := bs_size m
  have hcat := bs_append r m
  have c8 := hash_cell8 hh hg
  have c9 := hash_cell9 hh hg
  have f8 := hash_free hg 8
  have f9 := hash_free hg 9
  have h1 : m.length ≤ 140737488355328 := by omega
  have hrs := bs_size r
  clear hg hh
  go_enter Try.func142, Try.ntmps142
  go_wp2
  have HI0 := hid (hash_set9 HH.out HG.out ((n : Int) + (m.length : Int)))
  have HN0 := hid (grownBy_setCell w g 9 (.int .i64 ((n : Int) + (m.length : Int))))
  generalize w.setCell ⟨g, 9, none⟩ (.int .i64 ((n : Int) + (m.length : Int))) = W at *
  have hal : (r ++ m).length ≤ 140737488355328 := by rw [List.length_append]; omega
  clear c8 c9 f8 f9 hcat hrs hsz HG
  generalize hl : r ++ m = l at *
  have HL := hid hl
  clear hl
  go_loopg [5] (l.length + 1) (fun q v wr => ∃ k : Nat, 64 * k ≤ l.length ∧ q = l.length - 64 * k + 1 ∧ v = .string (bs (l.drop (64 * k))) ∧ Hid (IsHash wr g (blocks h l k) (bs r) ((n : Int) + (m.length : Int))) ∧ Hid (w.grownBy wr (some g)))
  case atStart => exact ⟨0, by omega, by omega, rfl, HI0, HN0⟩
  case round =>
    obtain ⟨k, hk, hq, rfl, hI, hN⟩ := hrel
    clear HI0 HN0
    have hds : (bs (l.drop (64 * k))).size = l.length - 64 * k := by rw [bs_size, List.length_drop]
    by_cases hlt : 64 ≤ l.length - 64 * k
    · have t1 : decide ((64 : Int) ≤ ((l.length - 64 * k : Nat) : Int)) = true := by simp; omega
      have t2 : (64 : Int) ≤ ((l.length - 64 * k : Nat) : Int) := by omega
      have x1 := bs_extract (l.drop (64 * k)) 0 64
      have x2 := bs_extract (l.drop (64 * k)) 64 (l.length - 64 * k)
      have x3 : 64 ≤ (bs (l.drop (64 * k))).size := by rw [hds]; exact hlt
      go_wp2
      (refine' wp_region_head 5 1 [_, _, _, _, _] rfl (by kernel_rfl) (by kernel_rfl) ?hreg1; case' hreg1 => simp only [List.take_succ_cons, List.take_zero, List.zip_cons_cons, List.zip_nil_right, List.drop_succ_cons, List.drop_zero, List.drop_nil])
      (iterate 5 (refine' head_val ?_ ?_ ?_ ?_; rotate_left; (· rfl); (· first | exact fun _ _ _ => trivial | (intro t ht w; cases ht; simp [upE])); (· intro w' hw' _; go_simp; with_reducible rfl); simp only [Act.put, List.setIfInBounds_toArray, List.set_cons_zero, List.set_cons_succ]))
      refine head_nil ?_
      intro w2 hw2 _
      go_wp2_with fail
      have hs64 : (bs ((l.drop (64 * k)).take 64)).size = 64 := by rw [bs_size, List.length_take, List.length_drop]; omega
      have hg2 : w2.heap[g]? = some (.cells (u32s (blocks h l k) ++ [Value.string (bs r), Value.int .i64 ((n : Int) + (m.length : Int))]).toArray 162 (0, 0)) := hash_grow hI.out hw2
      refine (shaAddC g _ (blocks h l k) _ _ (blocks_length _ _ HH.out _) hs64 w2 hg2).mono ?_
      rintro e w3 ⟨rfl, hg3, hn3⟩
      rw [bl_bs] at hg3
      have HI3 : Hid (IsHash w3 g (blocks h l (k + 1)) (bs r) ((n : Int) + (m.length : Int))) := hg3
      have HN3 := hid (grownBy_trans (grownBy_trans hN.out (grownBy_grow hw2 _)) hn3)
      clear hs64 hg2 hg3 hn3 hw2
      have x4 : ((l.drop (64 * k)).drop 64).take (l.length - 64 * k - 64) = l.drop (64 * (k + 1)) := by
        rw [List.drop_drop, List.take_of_length_le (by rw [List.length_drop]; omega)]
        rfl
      rw [x4] at x2
      have t3 : (64 : Int) ≤ ((bs (l.drop (64 * k))).size : Int) := by omega
      go_wp2
      go_roundg (l.length - 64 * (k + 1) + 1)
      case rel => exact ⟨k + 1, by omega, rfl, rfl, HI3, HN3⟩
      case measure => omega
    · have t1 : decide ((64 : Int) ≤ ((l.length - 64 * k : Nat) : Int)) = false := by simp; omega
      have t2 : ¬ (64 : Int) ≤ ((l.length - 64 * k : Nat) : Int) := by omega
      have c8 := hash_cell8 (blocks_length h l HH.out k) hI.out
      have f8 := hash_free hI.out 8
      have HKK := hid (show k = l.length / 64 by omega)
      go_wp2
      go_ret
      refine ⟨rfl, ?_, grownBy_trans hN.out (grownBy_setCell _ _ _ _)⟩
      have := hash_set8 (blocks_length h l HH.out k) hI.out (bs (l.drop (64 * k)))
      rw [HL.out, feed, restOf, ← HKK.out]
      exact this
end Go.Proofs.Ytkibibgbmkejjaa
