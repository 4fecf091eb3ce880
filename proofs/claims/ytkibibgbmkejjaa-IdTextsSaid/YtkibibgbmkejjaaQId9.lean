import Derived.Test.YtkibibgbmkejjaaQId8
set_option linter.unusedSimpArgs false
set_option linter.unusedVariables false
namespace Go.Proofs.Ytkibibgbmkejjaa
open Go.RowKit
open Go.Qk
set_option maxHeartbeats 1000000
set_option maxRecDepth 100000
theorem and1F : ∀ n : Fin 256, bits .and .u8 ((n.val : Nat) : Int) 1 = ((n.val % 2 : Nat) : Int) := by decide +kernel
theorem and1 (n : Nat) (h : n < 256) : bits .and .u8 (n : Int) 1 = ((n % 2 : Nat) : Int) := and1F ⟨n, h⟩
theorem shr8n (x c : Nat) (hc : c < 8) : Op.shift .shr .u8 (x : Int) .i64 (c : Int) = pure (.int .u8 ((x / 2 ^ c : Nat) : Int)) := by
  have e : min c 8 = c := by omega
  simp [Op.shift, IntKind.bits, e]
theorem idBitOut (l : List UInt8) (hl : l.length = 32) (i : Int) (h : i < 0 ∨ 256 ≤ i) (w : World) :
    Calls Try.prog 28 #[idV l, .int .i64 i] w fun e w' => e = .returned (.int .i64 0) ∧ Below w.heap.size w w' := by
  unfold idV
  by_cases h0 : i < 0
  · go_enter Try.func28, Try.ntmps28
    go_wp2
    go_ret
    exact ⟨rfl, grow_alloc _ _⟩
  · have h1 : 256 ≤ i := by omega
    go_enter Try.func28, Try.ntmps28
    go_wp2
    go_ret
    exact ⟨rfl, grow_alloc _ _⟩
theorem idBit (l : List UInt8) (hl : l.length = 32) (n : Nat) (hn : n < 256) (w : World) :
    Calls Try.prog 28 #[idV l, .int .i64 n] w fun e w' => e = .returned (.int .i64 (bitI l n)) ∧ Below w.heap.size w w' := by
  unfold idV
  have h0 : ¬ (n : Int) < 0 := by omega
  have h1 : ¬ (256 : Int) ≤ (n : Int) := by omega
  have HN := hid hn
  have hd : (n : Int).tdiv 8 = ((n / 8 : Nat) : Int) := by rw [Int.tdiv_eq_ediv_of_nonneg (by omega)]; omega
  have hm : (n : Int).tmod 8 = ((n % 8 : Nat) : Int) := by rw [Int.tmod_eq_emod_of_nonneg (by omega)]; omega
  have HX := hid (show bitI l n = (((l.getD (n / 8) 0).toNat / 2 ^ (7 - n % 8) % 2 : Nat) : Int) from rfl)
  go_enter Try.func28, Try.ntmps28
  go_upto_region 3 with (fail)
  have hc : (w.alloc (.cells (u8s l).toArray 23)).cell? ⟨w.heap.size, n / 8, none⟩ = some (.int .u8 (b8 l (n / 8))) := cell_u8 (heap_alloc_new _ _) (grow_refl _) _ (by omega)
  have HB := hid (grow_alloc w (.cells (u8s l).toArray 23))
  generalize w.alloc (.cells (u8s l).toArray 23) = W at *
  unfold b8 at hc
  have hx := (l.getD (n / 8) 0).toNat_lt
  have hcc : 7 - (n : Int) % 8 = ((7 - n % 8 : Nat) : Int) := by omega
  have hsh := shr8n (l.getD (n / 8) 0).toNat (7 - n % 8) (by omega)
  have hand := and1 ((l.getD (n / 8) 0).toNat / 2 ^ (7 - n % 8)) (Nat.lt_of_le_of_lt (Nat.div_le_self _ _) hx)
  generalize (l.getD (n / 8) 0).toNat = x at *
  generalize hy : x / 2 ^ (7 - n % 8) = y at *
  have HY := hid hy
  clear hy
  have he : (x : Int) / 2 ^ (7 - n % 8) = (y : Int) := by rw [← HY.out]; simp
  have HE := hid he
  have HAND := hid hand
  clear he hand hsh
  go_wp2
  go_ret
  refine ⟨?_, HB.out⟩
  rw [HX.out]
  show Ending.returned (.int .i64 (wrap64 (bits .and .u8 ((x : Int) / 2 ^ (7 - n % 8)) 1))) = _
  rw [HE.out, HAND.out]
  have hw : wrap64 ((y % 2 : Nat) : Int) = ((y % 2 : Nat) : Int) := by
    unfold wrap64
    omega
  rw [hw]
end Go.Proofs.Ytkibibgbmkejjaa
