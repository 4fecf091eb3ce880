/- A number as one byte, or two. -/
import Derived.Test.YtkibibgbmkejjaaQTagO
set_option linter.unusedSimpArgs false
set_option linter.unusedVariables false
namespace Go.Proofs.Ytkibibgbmkejjaa
open Go.RowKit
open Go.Qk hiding rotr b4
set_option maxHeartbeats 1000000
set_option maxRecDepth 100000
def beG (n k v : Nat) : List UInt8 := List.replicate k 0 ++ be (n - k) v
theorem beG_length (n k v : Nat) (h : k ≤ n) : (beG n k v).length = n := by simp [beG, be_length]; omega
theorem beG_step (n k v : Nat) (h : k < n) : (u8s (beG n (k + 1) v)).toArray.setIfInBounds k (.int .u8 (((v / 256 ^ (n - 1 - k) % 256 : Nat) : Int))) = (u8s (beG n k v)).toArray := by
  have h1 : beG n k v = List.replicate k 0 ++ UInt8.ofNat (v / 256 ^ (n - 1 - k) % 256) :: be (n - 1 - k) v := by
    rw [beG, show n - k = (n - 1 - k) + 1 from by omega, be_cons]
  have h2 : beG n (k + 1) v = List.replicate k 0 ++ 0 :: be (n - 1 - k) v := by
    rw [beG, show n - (k + 1) = n - 1 - k from by omega, List.replicate_succ']
    simp
  rw [h1, h2, ← u8_of _ (Nat.mod_lt _ (by omega))]
  simp [u8s]
theorem refPower (n : Nat) (hn : n ≤ 7) (w : World) : Calls Try.prog 144 #[.int .i64 n] w fun e w' => e = .returned (.int .u64 ((256 ^ n : Nat) : Int)) ∧ Below w.heap.size w w' := by
  go_enter Try.func144, Try.ntmps144
  go_wp2
  go_loopg [3, 4] (n + 1) (fun q x i wr => ∃ k : Nat, k ≤ n ∧ q = n + 1 - k ∧ i = .int .i64 k ∧ x = .int .u64 ((256 ^ k : Nat) : Int) ∧ Hid (Grow w wr))
  case atStart => exact ⟨0, by omega, rfl, rfl, rfl, hid (grow_refl _)⟩
  case round =>
    obtain ⟨k, hk, hq, rfl, rfl, hB⟩ := hrel
    by_cases hlt : k < n
    · have hp : 256 ^ k ≤ 256 ^ 6 := Nat.pow_le_pow_right (by omega) (by omega)
      have hp2 : 256 ^ k < 2 ^ 50 := by omega
      have HE := hid (show ((256 ^ (k + 1) : Nat) : Int) = 256 * ((256 ^ k : Nat) : Int) by rw [Nat.pow_succ]; simp; omega)
      clear hp
      generalize 256 ^ k = x at *
      go_wp2
      go_roundg (n + 1 - (k + 1))
      case rel => exact ⟨k + 1, by omega, rfl, by go_num, by rw [HE.out], hB⟩
      case measure => omega
    · obtain rfl : k = n := by omega
      go_wp2
      go_ret
      exact ⟨rfl, hB.out⟩
theorem number1 (v : Nat) (hv : v < 256) (w : World) :
    Calls Try.prog 107 #[.int .u64 v, .int .i64 1] w fun e w' => e = .returned (.tuple #[.string (bs (be 1 v)), .bool true]) ∧ Below w.heap.size w w' := by
  have hmk : ∀ w, (Instr.makeSlice 112 (.int .i64 1) (.int .i64 1)).run Try.prog w = .ok (.slice (some ⟨w.heap.size, 0, none⟩) 1 1) (w.alloc (.cells (u8s (beG 1 1 v)).toArray 5)) := fun _ => by kernel_rfl
  have hv2 : (v : Int) < 256 := by omega
  have hsh : (v : Int) / 256 = 0 := by omega
  go_enter Try.func107, Try.ntmps107
  go_wp2
  go_loopg [0, 7] 2 (fun n x i wr => ∃ k : Nat, k ≤ 1 ∧ n = k + 1 ∧ i = .int .i64 ((k : Int) - 1) ∧ x = .int .u64 ((v / 256 ^ (1 - k) : Nat) : Int) ∧ Hid (wr.heap[w.heap.size]? = some (.cells (u8s (beG 1 k v)).toArray 5 (0, 0))) ∧ Hid (Below w.heap.size w wr))
  case atStart => exact ⟨1, by omega, by omega, rfl, by simp, heap_alloc_new _ _, (Below.refl _ _).alloc (Nat.le_refl _) _⟩
  case round =>
    obtain ⟨k, hk, hn, rfl, rfl, hg, hb⟩ := hrel
    clear hmk hsh
    cases k with
    | zero =>
      have hcv := run_str_block (P := Try.prog) wr 112 5 9 5 Try.underlying112 Try.underlying5 Try.underlying9 w.heap.size 1 (beG 1 0 v) (0, 0) hg.out 1 (beG_length 1 0 v (by omega))
      go_wp2
      go_ret2
      exact ⟨rfl, hb.out⟩
    | succ k =>
      have hlt := beG_length 1 (k + 1) v (by omega)
      have c1 : wr.cell? ⟨w.heap.size, k, none⟩ = some (.int .u8 (b8 (beG 1 (k + 1) v) k)) := cell_u8 hg.out (grow_refl _) k (by omega)
      have f1 : wr.frozen? ⟨w.heap.size, k, none⟩ = false := frozen_of_row wr _ k _ _ hg.out
      have k1 : (k : Int) < 1 := by omega
      have hy : ((v / 256 ^ (1 - (k + 1)) : Nat) : Int) < 256 := by have := Nat.div_le_self v (256 ^ (1 - (k + 1))); omega
      have HY := hid (show ((v / 256 ^ (1 - k) : Nat) : Int) = ((v / 256 ^ (1 - (k + 1)) : Nat) : Int) / 256 by
        rw [show 1 - k = (1 - (k + 1)) + 1 from by omega, Nat.pow_succ, ← Nat.div_div_eq_div_mul]
        simp)
      have HZ := hid (beG_step 1 k v (by omega))
      rw [show 1 - 1 - k = 1 - (k + 1) from by omega] at HZ
      generalize v / 256 ^ (1 - (k + 1)) = y at *
      go_wp2
      go_roundg (k + 1)
      case rel =>
        refine ⟨k, by omega, rfl, by go_num, ?_, ?_, (hb.out).setCell (Nat.le_refl _) _⟩
        · rw [HY.out]
        · have h2 := heap_setCell_same wr w.heap.size k (u8s (beG 1 (k + 1) v)).toArray 5 (.int .u8 ((y % 256 : Nat) : Int)) hg.out
          rw [HZ.out] at h2
          first | exact h2 | (rw [show y % 256 = y from by omega] at h2; exact h2)
      case measure => omega
theorem refNumber1 (v : Nat) (hv : v < 256) (w : World) :
    Calls Try.prog 109 #[.int .u64 v, .int .i64 1] w fun e w' => e = .returned (.tuple #[.string (bs (be 1 v)), .bool true]) ∧ Below w.heap.size w w' := by
  have hv2 : (v : Int) < 256 := by omega
  go_enter Try.func109, Try.ntmps109
  go_wp2_with fail
  refine (refPower 1 (by omega) _).mono ?_
  rintro e w1 ⟨rfl, hb⟩
  obtain ⟨p, hp⟩ : ∃ p : Int, ((256 ^ 1 : Nat) : Int) = p := ⟨_, rfl⟩
  have hvp : (v : Int) < p := by rw [← hp]; simpa using hv2
  rw [hp]
  have HG := hid hb
  have HV := hid hv
  clear hp hb hv hv2
  go_wp2_with fail
  go_loopg [0, 6, 7] 2 (fun q x s i wr => ∃ k : Nat, k ≤ 1 ∧ q = 2 - k ∧ i = .int .i64 k ∧ x = .int .u64 ((v / 256 ^ k : Nat) : Int) ∧ s = .string (bs (be k v)) ∧ Hid (Grow w wr))
  case atStart => exact ⟨0, by omega, rfl, rfl, by simp, rfl, HG⟩
  case round =>
    obtain ⟨k, hk, hq, rfl, rfl, rfl, hB⟩ := hrel
    clear HG
    have hv := HV.out
    by_cases hlt : k < 1
    · have hbe := be_cons k v
      have hy : ((v / 256 ^ k : Nat) : Int) < 256 := by have := Nat.div_le_self v (256 ^ k); omega
      have HY := hid (show ((v / 256 ^ (k + 1) : Nat) : Int) = ((v / 256 ^ k : Nat) : Int) / 256 by
        rw [Nat.pow_succ, ← Nat.div_div_eq_div_mul]
        simp)
      have H3 := hid (show bs [UInt8.ofNat (v / 256 ^ k % 256)] ++ bs (be k v) = bs (be (k + 1) v) by rw [bs_append, hbe]; rfl)
      have hs1 : (bs [UInt8.ofNat (v / 256 ^ k % 256)]).size = 1 := by rw [bs_size]; rfl
      have hs2 : (bs (be k v)).size = k := by rw [bs_size, be_length]
      have hcv := byte_str wr (v / 256 ^ k % 256) (Nat.mod_lt _ (by omega))
      generalize bs (be k v) = c2 at *
      generalize v / 256 ^ k = y at *
      have hm : ((y % 256 : Nat) : Int) = (y : Int) % 256 := by simp
      rw [hm] at hcv
      clear hm hbe
      generalize bs [UInt8.ofNat (y % 256)] = c1 at *
      have hwr : IntKind.u64.wrap ((y : Int) / 256) = (y : Int) / 256 := by simp [IntKind.wrap, IntKind.signed, IntKind.bits]; omega
      clear hv hy hvp
      go_wp2
      go_roundg (2 - (k + 1))
      case rel => exact ⟨k + 1, by omega, rfl, by go_num, by rw [HY.out], by rw [H3.out], hid (hB.out.trans (grow_alloc _ _))⟩
      case measure => omega
    · obtain rfl : k = 1 := by omega
      go_wp2
      go_ret2
      exact ⟨rfl, hB.out⟩
theorem number2 (v : Nat) (hv : v < 65536) (w : World) :
    Calls Try.prog 107 #[.int .u64 v, .int .i64 2] w fun e w' => e = .returned (.tuple #[.string (bs (be 2 v)), .bool true]) ∧ Below w.heap.size w w' := by
  have hmk : ∀ w, (Instr.makeSlice 112 (.int .i64 2) (.int .i64 2)).run Try.prog w = .ok (.slice (some ⟨w.heap.size, 0, none⟩) 2 2) (w.alloc (.cells (u8s (beG 2 2 v)).toArray 5)) := fun _ => by kernel_rfl
  have hv2 : (v : Int) < 65536 := by omega
  have hsh : (v : Int) / 65536 = 0 := by omega
  go_enter Try.func107, Try.ntmps107
  go_wp2
  go_loopg [0, 7] 3 (fun n x i wr => ∃ k : Nat, k ≤ 2 ∧ n = k + 1 ∧ i = .int .i64 ((k : Int) - 1) ∧ x = .int .u64 ((v / 256 ^ (2 - k) : Nat) : Int) ∧ Hid (wr.heap[w.heap.size]? = some (.cells (u8s (beG 2 k v)).toArray 5 (0, 0))) ∧ Hid (Below w.heap.size w wr))
  case atStart => exact ⟨2, by omega, by omega, rfl, by simp, heap_alloc_new _ _, (Below.refl _ _).alloc (Nat.le_refl _) _⟩
  case round =>
    obtain ⟨k, hk, hn, rfl, rfl, hg, hb⟩ := hrel
    clear hmk hsh
    cases k with
    | zero =>
      have hcv := run_str_block (P := Try.prog) wr 112 5 9 5 Try.underlying112 Try.underlying5 Try.underlying9 w.heap.size 2 (beG 2 0 v) (0, 0) hg.out 2 (beG_length 2 0 v (by omega))
      go_wp2
      go_ret2
      exact ⟨rfl, hb.out⟩
    | succ k =>
      have hlt := beG_length 2 (k + 1) v (by omega)
      have c1 : wr.cell? ⟨w.heap.size, k, none⟩ = some (.int .u8 (b8 (beG 2 (k + 1) v) k)) := cell_u8 hg.out (grow_refl _) k (by omega)
      have f1 : wr.frozen? ⟨w.heap.size, k, none⟩ = false := frozen_of_row wr _ k _ _ hg.out
      have k1 : (k : Int) < 2 := by omega
      have hy : ((v / 256 ^ (2 - (k + 1)) : Nat) : Int) < 65536 := by have := Nat.div_le_self v (256 ^ (2 - (k + 1))); omega
      have HY := hid (show ((v / 256 ^ (2 - k) : Nat) : Int) = ((v / 256 ^ (2 - (k + 1)) : Nat) : Int) / 256 by
        rw [show 2 - k = (2 - (k + 1)) + 1 from by omega, Nat.pow_succ, ← Nat.div_div_eq_div_mul]
        simp)
      have HZ := hid (beG_step 2 k v (by omega))
      rw [show 2 - 1 - k = 2 - (k + 1) from by omega] at HZ
      generalize v / 256 ^ (2 - (k + 1)) = y at *
      go_wp2
      go_roundg (k + 1)
      case rel =>
        refine ⟨k, by omega, rfl, by go_num, ?_, ?_, (hb.out).setCell (Nat.le_refl _) _⟩
        · rw [HY.out]
        · have h2 := heap_setCell_same wr w.heap.size k (u8s (beG 2 (k + 1) v)).toArray 5 (.int .u8 ((y % 256 : Nat) : Int)) hg.out
          rw [HZ.out] at h2
          first | exact h2 | (rw [show y % 256 = y from by omega] at h2; exact h2)
      case measure => omega
theorem refNumber2 (v : Nat) (hv : v < 65536) (w : World) :
    Calls Try.prog 109 #[.int .u64 v, .int .i64 2] w fun e w' => e = .returned (.tuple #[.string (bs (be 2 v)), .bool true]) ∧ Below w.heap.size w w' := by
  have hv2 : (v : Int) < 65536 := by omega
  go_enter Try.func109, Try.ntmps109
  go_wp2_with fail
  refine (refPower 2 (by omega) _).mono ?_
  rintro e w1 ⟨rfl, hb⟩
  obtain ⟨p, hp⟩ : ∃ p : Int, ((256 ^ 2 : Nat) : Int) = p := ⟨_, rfl⟩
  have hvp : (v : Int) < p := by rw [← hp]; simpa using hv2
  rw [hp]
  have HG := hid hb
  have HV := hid hv
  clear hp hb hv hv2
  go_wp2_with fail
  go_loopg [0, 6, 7] 3 (fun q x s i wr => ∃ k : Nat, k ≤ 2 ∧ q = 3 - k ∧ i = .int .i64 k ∧ x = .int .u64 ((v / 256 ^ k : Nat) : Int) ∧ s = .string (bs (be k v)) ∧ Hid (Grow w wr))
  case atStart => exact ⟨0, by omega, rfl, rfl, by simp, rfl, HG⟩
  case round =>
    obtain ⟨k, hk, hq, rfl, rfl, rfl, hB⟩ := hrel
    clear HG
    have hv := HV.out
    by_cases hlt : k < 2
    · have hbe := be_cons k v
      have hy : ((v / 256 ^ k : Nat) : Int) < 65536 := by have := Nat.div_le_self v (256 ^ k); omega
      have HY := hid (show ((v / 256 ^ (k + 1) : Nat) : Int) = ((v / 256 ^ k : Nat) : Int) / 256 by
        rw [Nat.pow_succ, ← Nat.div_div_eq_div_mul]
        simp)
      have H3 := hid (show bs [UInt8.ofNat (v / 256 ^ k % 256)] ++ bs (be k v) = bs (be (k + 1) v) by rw [bs_append, hbe]; rfl)
      have hs1 : (bs [UInt8.ofNat (v / 256 ^ k % 256)]).size = 1 := by rw [bs_size]; rfl
      have hs2 : (bs (be k v)).size = k := by rw [bs_size, be_length]
      have hcv := byte_str wr (v / 256 ^ k % 256) (Nat.mod_lt _ (by omega))
      generalize bs (be k v) = c2 at *
      generalize v / 256 ^ k = y at *
      have hm : ((y % 256 : Nat) : Int) = (y : Int) % 256 := by simp
      rw [hm] at hcv
      clear hm hbe
      generalize bs [UInt8.ofNat (y % 256)] = c1 at *
      have hwr : IntKind.u64.wrap ((y : Int) / 256) = (y : Int) / 256 := by simp [IntKind.wrap, IntKind.signed, IntKind.bits]; omega
      clear hv hy hvp
      go_wp2
      go_roundg (3 - (k + 1))
      case rel => exact ⟨k + 1, by omega, rfl, by go_num, by rw [HY.out], by rw [H3.out], hid (hB.out.trans (grow_alloc _ _))⟩
      case measure => omega
    · obtain rfl : k = 2 := by omega
      go_wp2
      go_ret2
      exact ⟨rfl, hB.out⟩
end Go.Proofs.Ytkibibgbmkejjaa
