import Derived.Test.YtkibibgbmkejjaaProg
import Derived.Test.YtkibibgbmkejjaaQWordP
import Derived.WalkSpells
import Derived.WalkLawsBesides
import Derived.Deep.LoopGhost
import Derived.Deep.DeepCutAuto
import Derived.Deep.CutBlock
import Derived.Deep.DeepFit
set_option linter.unusedSimpArgs false
set_option linter.unusedVariables false
namespace Go.Proofs.Ytkibibgbmkejjaa
open Go.RowKit Go.Qk

set_option maxHeartbeats 400000
set_option maxRecDepth 100000
theorem infoU8 : (Try.prog.info? 5).map (fun i => (i.zero, i.size, i.bytes)) = some (some (.int .u8 0), 1, 1) := by kernel_rfl
theorem number8 (v : Nat) (hv : v < 18446744073709551616) (w : World) :
    Calls Try.prog 107 #[.int .u64 v, .int .i64 8] w fun e w' => e = .returned (.tuple #[.string (bs (be 8 v)), .bool true]) ∧ Below w.heap.size w w' := by
  have hmk : ∀ w, (Instr.makeSlice 112 (.int .i64 8) (.int .i64 8)).run Try.prog w = .ok (.slice (some ⟨w.heap.size, 0, none⟩) 8 8) (w.alloc (.cells (u8s (beRow 8 v)).toArray 5)) := fun _ => by kernel_rfl
  have HV := hid hv
  clear hv
  go_enter Try.func107, Try.ntmps107
  go_wp2
  go_loopg [0, 7] 9 (fun n x i wr => ∃ k : Nat, k ≤ 8 ∧ n = k + 1 ∧ i = .int .i64 ((k : Int) - 1) ∧ x = .int .u64 ((v / 256 ^ (8 - k) : Nat) : Int) ∧ Hid (wr.heap[w.heap.size]? = some (.cells (u8s (beRow k v)).toArray 5 (0, 0))) ∧ Hid (Below w.heap.size w wr))
  case atStart => exact ⟨8, by omega, by omega, rfl, by simp, heap_alloc_new _ _, (Below.refl _ _).alloc (Nat.le_refl _) _⟩
  case round =>
    obtain ⟨k, hk, hn, rfl, rfl, hg, hb⟩ := hrel
    clear hmk
    cases k with
    | zero =>
      have hcv := run_str_block (P := Try.prog) wr 112 5 9 5 Try.underlying112 Try.underlying5 Try.underlying9 w.heap.size 8 (beRow 0 v) (0, 0) hg.out 8 (beRow_length 0 v (by omega))
      go_wp2
      go_ret2
      exact ⟨rfl, hb.out⟩
    | succ k =>
      have hlt := beRow_length (k + 1) v (by omega)
      have c1 : wr.cell? ⟨w.heap.size, k, none⟩ = some (.int .u8 (b8 (beRow (k + 1) v) k)) := cell_u8 hg.out (grow_refl _) k (by omega)
      have f1 : wr.frozen? ⟨w.heap.size, k, none⟩ = false := frozen_of_row wr _ k _ _ hg.out
      go_wp2
      go_roundg (k + 1)
      case rel =>
        refine ⟨k, by omega, rfl, by go_num, ?_, ?_, (hb.out).setCell (Nat.le_refl _) _⟩
        · have e1 : ((v / 256 ^ (8 - k) : Nat) : Int) = (v : Int) / 256 ^ (7 - k) / 256 := by
            rw [show 8 - k = (7 - k) + 1 from by omega, Nat.pow_succ, ← Nat.div_div_eq_div_mul]
            simp
          rw [e1]
        · have h2 := heap_setCell_same wr w.heap.size k (u8s (beRow (k + 1) v)).toArray 5 (.int .u8 (((v / 256 ^ (7 - k) % 256 : Nat) : Int))) hg.out
          rw [beRow_step k v (by omega)] at h2
          have e1 : ((v / 256 ^ (7 - k) % 256 : Nat) : Int) = (v : Int) / 256 ^ (7 - k) % 256 := by simp
          rw [e1] at h2
          exact h2
      case measure => omega
end Go.Proofs.Ytkibibgbmkejjaa
