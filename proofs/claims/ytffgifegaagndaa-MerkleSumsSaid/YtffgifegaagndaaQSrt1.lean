/- The library's sort, laid at ids; id.compare with its world told exactly. -/
import Derived.Test.YtffgifegaagndaaQIdx1
import Derived.Test.YtffgifegaagndaaQSet1
import Derived.Shelf.SlSortCmp.NoneTotal
import Derived.Shelf.Lay
import Derived.Ground.SlsfProg
set_option linter.unusedSimpArgs false
set_option linter.unusedVariables false
namespace Go.Proofs
open Go.Shelf Go.RowKit Go.Lib Go.Sort
shelf_lay_g SlLaysF0.n6 Slsf 6 at Try 118 as Try.sortId
end Go.Proofs
namespace Go.Proofs.Ytffgifegaagndaa
open Go.RowKit
open Go.Qk hiding rotr b4
set_option maxHeartbeats 1000000
set_option maxRecDepth 100000
theorem bytesCompareX (l m : List UInt8) (a b : Addr) (c d : Nat) (w : World) (h1 : ∀ j, j < l.length → w.cell? (a.add j) = some (.int .u8 (b8 l j))) (h2 : ∀ j, j < m.length → w.cell? (b.add j) = some (.int .u8 (b8 m j))) :
    Calls Try.prog 149 #[.slice (some a) l.length c, .slice (some b) m.length d] w fun e w' => e = .returned (.int .i64 (Lib.compareBytes l m)) ∧ w' = w := by
  go_enter Try.func149, Try.ntmps149
  go_wp2
  rw [run_callFunc_extern Try.func176 (by kernel_rfl) (by kernel_rfl) (by kernel_rfl) (e := Extern.BytealgCompare.compare) (by kernel_rfl), run_cmp l m a b c d w h1 h2]
  simp only [Result.andThen]
  rw [Oper.upon_value]
  go_wp2
  go_ret
  exact ⟨rfl, rfl⟩
theorem idCompareX (l m : List UInt8) (hl : l.length = 32) (hm : m.length = 32) (w : World) :
    Calls Try.prog 119 #[idV l, idV m] w fun e w' => e = .returned (.int .i64 (Lib.compareBytes l m)) ∧ ∃ q os', w' = Go.Sort.grow (w.drewN q) os' := by
  unfold idV
  go_enter Try.func119, Try.ntmps119
  go_wp2_with fail
  have HG1 := hid (show ((w.alloc (.cells (u8s l).toArray 23)).alloc (.cells (u8s m).toArray 23)).heap[w.heap.size]? = some (.cells (u8s l).toArray 23 (0, 0)) from heap_alloc2_old _ _ _)
  have HG2 := hid (show ((w.alloc (.cells (u8s l).toArray 23)).alloc (.cells (u8s m).toArray 23)).heap[w.heap.size + 1]? = some (.cells (u8s m).toArray 23 (0, 0)) from heap_alloc2_new _ _ _)
  have HW : (w.alloc (.cells (u8s l).toArray 23)).alloc (.cells (u8s m).toArray 23) = Go.Sort.grow w #[.cells (u8s l).toArray 23, .cells (u8s m).toArray 23] := by
    rw [Go.Sort.alloc_eq_grow, Go.Sort.alloc_eq_grow, Go.Sort.grow_grow]
    rfl
  have HWH := hid HW
  clear HW
  generalize ((w.alloc (.cells (u8s l).toArray 23)).alloc (.cells (u8s m).toArray 23)) = W at *
  have HC : ∀ n, Calls Try.prog 149 #[.slice (some ⟨w.heap.size, 0, none⟩) 32 32, .slice (some ⟨w.heap.size + 1, 0, none⟩) 32 32] (W.drewN n) fun e w' => e = .returned (.int .i64 (Lib.compareBytes l m)) ∧ w' = W.drewN n := fun n => by
    have hd : Grow W (W.drewN n) := by unfold Grow; exact ⟨rfl, rfl, rfl, Nat.le_refl _, fun _ _ => rfl⟩
    have := bytesCompareX l m ⟨w.heap.size, 0, none⟩ ⟨w.heap.size + 1, 0, none⟩ 32 32 (W.drewN n) (fun j hj => by rw [addr_add]; exact cell_u8 HG1.out hd j hj) (fun j hj => by rw [addr_add]; exact cell_u8 HG2.out hd j hj)
    rw [hl, hm] at this
    exact this
  have HCH := hid HC
  clear HC
  go_quiet (first | (go_at_call 149; refine Calls.quiet_of_same (HCH.out _)))
  go_wp2
  go_ret
  exact ⟨rfl, nq, #[.cells (u8s l).toArray 23, .cells (u8s m).toArray 23], by rw [HWH.out]; rfl⟩
end Go.Proofs.Ytffgifegaagndaa
