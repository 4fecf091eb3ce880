import Derived.Test.YtkibibgbmkejjaaQShaA
import Derived.Test.YtkibibgbmkejjaaQMem
set_option linter.unusedSimpArgs false
set_option linter.unusedVariables false
namespace Go.Proofs.Ytkibibgbmkejjaa
open Go.RowKit Go.Qk
attribute [local go_sem ↓ high] add_w32 and_w32 or_w32 xor_w32 shr_w32 shl_w32 shr3_w32 shr10_w32 shr8_w32 shr16_w32 shr24_w32 shl8_w32
attribute [local go_sem high] not_w32 max_xor_w32

set_option maxHeartbeats 1000000
set_option maxRecDepth 100000
theorem rotr_or (x : UInt32) (n : Nat) (hn : n < 32) : (x >>> UInt32.ofNat n) ||| (x <<< UInt32.ofNat (32 - n)) = rotr x n := by
  unfold rotr rotl
  rw [show 32 - (32 - n) = n from by omega, UInt32.or_comm]
theorem refTurn (x : UInt32) (n : Nat) (h0 : 0 < n) (hn : n < 32) (w : World) :
    Calls Try.prog 148 #[.int .u32 (w32 x), .int .i64 n] w fun e w' => e = .returned (.int .u32 (w32 (rotr x n))) ∧ Below w.heap.size w w' := by
  have HR := hid (rotr_or x n hn)
  have e1 : (32 : Int) - n = ((32 - n : Nat) : Int) := by omega
  have hm2 : 32 - n < 32 := by omega
  have e2 : IntKind.i64.wrap ((32 - n : Nat) : Int) = ((32 - n : Nat) : Int) := by simp [IntKind.wrap, IntKind.signed, IntKind.bits]; omega
  go_enter Try.func148, Try.ntmps148
  go_wp2
  (refine' wp_region_head 9 0 [_, _, _, _, _, _, _, _, _] rfl (by kernel_rfl) (by kernel_rfl) ?hreg1; case' hreg1 => simp only [List.take_succ_cons, List.take_zero, List.zip_cons_cons, List.zip_nil_right, List.drop_succ_cons, List.drop_zero, List.drop_nil])
  (iterate 9 (refine' head_val ?_ ?_ ?_ ?_; rotate_left; (· rfl); (· first | exact fun _ _ _ => trivial | (intro t ht w; cases ht; simp [upE])); (· intro w' hw' _; go_simp; with_reducible rfl); simp only [Act.put, List.setIfInBounds_toArray, List.set_cons_zero, List.set_cons_succ]))
  refine head_nil ?_
  intro w1 hw1 _
  refine wpList_nil ?_
  go_wp2
  go_ret
  exact ⟨by rw [HR.out]; rfl, hw1⟩

theorem refNumber8 (v : Nat) (hv : v < 18446744073709551616) (w : World) :
    Calls Try.prog 109 #[.int .u64 v, .int .i64 8] w fun e w' => e = .returned (.tuple #[.string (bs (be 8 v)), .bool true]) ∧ Below w.heap.size w w' := by
  have HV := hid hv
  clear hv
  go_enter Try.func109, Try.ntmps109
  go_wp2
  go_loopg [0, 6, 7] 9 (fun q x s i wr => ∃ k : Nat, k ≤ 8 ∧ q = 9 - k ∧ i = .int .i64 k ∧ x = .int .u64 ((v / 256 ^ k : Nat) : Int) ∧ s = .string (bs (be k v)) ∧ Hid (Grow w wr))
  case atStart => exact ⟨0, by omega, rfl, rfl, by simp, rfl, Below.refl _ _⟩
  case round =>
    obtain ⟨k, hk, hq, rfl, rfl, rfl, hB⟩ := hrel
    by_cases hlt : k < 8
    · have hbe := be_cons k v
      have hx := u8_of (v / 256 ^ k % 256) (Nat.mod_lt _ (by omega))
      have hwr : IntKind.u64.wrap (((v / 256 ^ k : Nat) : Int) / 256) = ((v / 256 ^ (k + 1) : Nat) : Int) := by
        have h1 : v / 256 ^ k ≤ v := Nat.div_le_self _ _
        have h2 := HV.out
        rw [Nat.pow_succ, ← Nat.div_div_eq_div_mul]
        generalize v / 256 ^ k = y at *
        simp [IntKind.wrap, IntKind.signed, IntKind.bits]
        omega
      have hm : ((v / 256 ^ k : Nat) : Int) % 256 = ((v / 256 ^ k % 256 : Nat) : Int) := by simp
      have hcat : bs [UInt8.ofNat (v / 256 ^ k % 256)] ++ bs (be k v) = bs (be (k + 1) v) := by rw [bs_append, hbe]; rfl
      have hs1 : (bs [UInt8.ofNat (v / 256 ^ k % 256)]).size = 1 := by rw [bs_size]; rfl
      have hs2 : (bs (be k v)).size = k := by rw [bs_size, be_length]
      generalize hxk : v / 256 ^ k = xk at *
      have hcv := fun (W : World) (h : W.heap[wr.heap.size]? = some (.cells (u8s [UInt8.ofNat (xk % 256)]).toArray 5 (0, 0))) => run_str_block (P := Try.prog) W 112 5 9 5 Try.underlying112 Try.underlying5 Try.underlying9 wr.heap.size 1 [UInt8.ofNat (xk % 256)] (0, 0) h 1 rfl
      have hcv2 : (convert 112 9 (.slice (some ⟨wr.heap.size, 0, none⟩) 1 1)).run Try.prog (wr.alloc (.cells #[.int .u8 ((xk : Int) % 256)] 5)) = .ok (.string (bs [UInt8.ofNat (xk % 256)])) (wr.alloc (.cells #[.int .u8 ((xk : Int) % 256)] 5)) := by
        apply hcv
        rw [heap_alloc_new, hm, ← hx]
        rfl
      clear hcv hx hbe hxk hm
      generalize bs [UInt8.ofNat (xk % 256)] = c1 at *
      generalize h3 : bs (be (k + 1) v) = c3 at *
      have H3 := hid h3
      clear h3
      generalize bs (be k v) = c2 at *
      go_wp2
      go_roundg (9 - (k + 1))
      case rel => exact ⟨k + 1, by omega, rfl, by go_num, rfl, by rw [H3.out], hB.out.alloc' _⟩
      case measure => omega
    · obtain rfl : k = 8 := by omega
      go_wp2
      go_ret2
      exact ⟨rfl, hB.out⟩
/-- Bytes as a number. -/
def val (l : List UInt8) : Nat := l.foldl (fun x b => 256 * x + b.toNat) 0
theorem val_snoc (l : List UInt8) (k : Nat) (h : k < l.length) : val (l.take (k + 1)) = 256 * val (l.take k) + (l.getD k 0).toNat := by
  rw [List.take_succ_eq_append_getElem h]
  unfold val
  rw [List.foldl_append]
  simp [h]
theorem val_lt (l : List UInt8) (k : Nat) : val (l.take k) < 256 ^ k := by
  induction k with
  | zero => simp [val]
  | succ k ih =>
    by_cases h : k < l.length
    · rw [val_snoc l k h, Nat.pow_succ]
      have := (l.getD k 0).toNat_lt
      omega
    · rw [List.take_of_length_le (by omega)]
      rw [List.take_of_length_le (by omega)] at ih
      rw [Nat.pow_succ]
      omega
theorem refValue (l : List UInt8) (hl : l.length ≤ 4) (w : World) :
    Calls Try.prog 147 #[.string (bs l)] w fun e w' => e = .returned (.int .u64 (val l)) ∧ Below w.heap.size w w' := by
  have hs := bs_size l
  go_enter Try.func147, Try.ntmps147
  go_wp2
  go_loopg [3, 4] (l.length + 1) (fun q x i wr => ∃ k : Nat, k ≤ l.length ∧ q = l.length + 1 - k ∧ i = .int .i64 k ∧ x = .int .u64 (val (l.take k)) ∧ Hid (Grow w wr))
  case atStart => exact ⟨0, by omega, rfl, rfl, rfl, Below.refl _ _⟩
  case round =>
    obtain ⟨k, hk, hq, rfl, rfl, hB⟩ := hrel
    by_cases hlt : k < l.length
    · have hix : ∀ w, (Instr.index 9 (.string (bs l)) (.int .i64 k)).run Try.prog w = .ok (.int .u8 (b8 l k)) w := fun w => by
        have := run_index_str (P := Try.prog) 9 (bs l) k (by omega) k rfl w Try.underlying9
        rw [bl_bs] at this
        exact this
      have h0 := b8_lo l k
      have h1 := b8_hi l k
      have HVS := hid (show ((val (l.take (k + 1)) : Nat) : Int) = 256 * (val (l.take k) : Int) + b8 l k by rw [val_snoc l k hlt, b8]; omega)
      have hvl : val (l.take k) < 16777216 := by
        have h2 := val_lt l k
        have h3 : 256 ^ k ≤ 256 ^ 3 := Nat.pow_le_pow_right (by omega) (by omega)
        omega
      generalize val (l.take k) = v0 at *
      generalize b8 l k = b at *
      go_wp2
      go_roundg (l.length + 1 - (k + 1))
      case rel => exact ⟨k + 1, by omega, rfl, by go_num, by rw [HVS.out], hB⟩
      case measure => omega
    · go_wp2
      go_ret
      exact ⟨by rw [List.take_of_length_le (by omega)]; rfl, hB.out⟩
end Go.Proofs.Ytkibibgbmkejjaa
