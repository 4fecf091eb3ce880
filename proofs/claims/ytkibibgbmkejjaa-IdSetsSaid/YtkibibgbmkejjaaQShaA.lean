import Derived.Test.YtkibibgbmkejjaaProg
import Derived.Test.YtkibibgbmkejjaaQWord
import Derived.Test.YtkibibgbmkejjaaQShaW
set_option linter.unusedSimpArgs false
set_option linter.unusedVariables false
namespace Go.Proofs.Ytkibibgbmkejjaa
open Go.RowKit Go.Qk
attribute [local go_sem ↓ high] add_w32 and_w32 or_w32 xor_w32 shr_w32 shl_w32 shr3_w32 shr10_w32 shr8_w32 shr16_w32 shr24_w32 shl8_w32
attribute [local go_sem high] not_w32 max_xor_w32

set_option maxHeartbeats 400000
set_option maxRecDepth 100000
def rotl (x : UInt32) (m : Nat) : UInt32 := (x <<< UInt32.ofNat m) ||| (x >>> UInt32.ofNat (32 - m))
def rotr (x : UInt32) (n : Nat) : UInt32 := rotl x (32 - n)

theorem wordLeft (x : UInt32) (m : Nat) (h0 : 0 < m) (hm : m < 32) (hb : bits .and .i64 (m : Int) 31 = m) (w : World) :
    Calls Try.prog 177 #[.int .u32 (w32 x), .int .i64 m] w fun e w' => e = .returned (.int .u32 (w32 (rotl x m))) ∧ Below w.heap.size w w' := by
  go_enter Try.func177, Try.ntmps177
  go_wp2
  have e1 : (32 : Int) - m = ((32 - m : Nat) : Int) := by omega
  have hm2 : 32 - m < 32 := by omega
  have e2 : IntKind.i64.wrap ((32 - m : Nat) : Int) = ((32 - m : Nat) : Int) := by simp [IntKind.wrap, IntKind.signed, IntKind.bits]; omega
  (refine' wp_region_head 9 0 [_, _, _, _, _, _, _, _, _] rfl (by kernel_rfl) (by kernel_rfl) ?hreg1; case' hreg1 => simp only [List.take_succ_cons, List.take_zero, List.zip_cons_cons, List.zip_nil_right, List.drop_succ_cons, List.drop_zero, List.drop_nil])
  (iterate 9 (refine' head_val ?_ ?_ ?_ ?_; rotate_left; (· rfl); (· first | exact fun _ _ _ => trivial | (intro t ht w; cases ht; simp [upE])); (· intro w' hw' _; go_simp; with_reducible rfl); simp only [Act.put, List.setIfInBounds_toArray, List.set_cons_zero, List.set_cons_succ]))
  refine head_nil ?_
  intro w1 hw1 _
  refine wpList_nil ?_
  go_wp2
  go_ret
  exact ⟨rfl, hw1⟩

theorem wordRight (x : UInt32) (n : Nat) (h0 : 0 < n) (hn : n < 32) (ha : bits .and .i64 (n : Int) 31 = n) (hb : bits .and .i64 ((32 - n : Nat) : Int) 31 = ((32 - n : Nat) : Int)) (w : World) :
    Calls Try.prog 170 #[.int .u32 (w32 x), .int .i64 n] w fun e w' => e = .returned (.int .u32 (w32 (rotr x n))) ∧ Below w.heap.size w w' := by
  have e1 : (32 : Int) - n = ((32 - n : Nat) : Int) := by omega
  have e2 : IntKind.i64.wrap ((32 - n : Nat) : Int) = ((32 - n : Nat) : Int) := by simp [IntKind.wrap, IntKind.signed, IntKind.bits]; omega
  have HB := hid hb
  clear hb
  go_enter Try.func170, Try.ntmps170
  go_wp2_with fail
  refine (wordLeft x (32 - n) (by omega) (by omega) HB.out _).mono ?_
  rintro e w1 ⟨rfl, hb⟩
  go_wp2
  go_ret
  exact ⟨rfl, hb⟩

theorem shaThree (x y : UInt32) (m n : Nat) (h0 : 0 < m) (hm : m < 32) (h1 : 0 < n) (hn : n < 32) (ha : bits .and .i64 (m : Int) 31 = m) (hb : bits .and .i64 ((32 - m : Nat) : Int) 31 = ((32 - m : Nat) : Int))
    (hc : bits .and .i64 (n : Int) 31 = n) (hd : bits .and .i64 ((32 - n : Nat) : Int) 31 = ((32 - n : Nat) : Int)) (w : World) :
    Calls Try.prog 168 #[.int .u32 (w32 x), .int .i64 m, .int .i64 n, .int .u32 (w32 y)] w fun e w' => e = .returned (.int .u32 (w32 (rotr x m ^^^ rotr x n ^^^ y))) ∧ Below w.heap.size w w' := by
  have HA := hid ha
  have HB := hid hb
  have HC := hid hc
  have HD := hid hd
  clear ha hb hc hd
  go_enter Try.func168, Try.ntmps168
  go_wp2_with fail
  refine (wordRight x m h0 hm HA.out HB.out _).mono ?_
  rintro e w1 ⟨rfl, hb1⟩
  have HB1 := hid hb1
  clear hb1
  go_wp2_with fail
  refine (wordRight x n h1 hn HC.out HD.out _).mono ?_
  rintro e w2 ⟨rfl, hb2⟩
  have HB2 := hid (Grow.trans HB1.out hb2)
  clear hb2
  go_wp2
  go_ret
  exact ⟨rfl, HB2.out⟩
end Go.Proofs.Ytkibibgbmkejjaa
