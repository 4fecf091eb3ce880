import Derived.Test.YtfkfhhkggpfcgaaQLaw02a
set_option linter.unusedSimpArgs false
set_option linter.unusedVariables false
namespace Go.Proofs.Ytfkfhhkggpfcgaa
open Go.RowKit
open Go.Qk hiding rotr b4
set_option maxHeartbeats 1000000
set_option maxRecDepth 100000
theorem id_eql_self (F : List UInt8) (hF : F.length = 32) (w : World) : (Go.binOp .eql 35 (idV F) (idV F)).run Try.prog w = .ok (.bool true) w := by
  have := id_eql F F hF hF w
  rw [beq_self_eq_true] at this
  exact this
theorem id_guard (op : BinOp) (F G : List UInt8) (x y : Operand) (w : World) : (Go.eqGuard op 35 x y (idV F) (idV G)).run Try.prog w = .ok () w :=
  run_eqGuard_agg w op 35 x y _ _ (by kernel_rfl)
theorem shaSums (a : ByteArray) (ha : a.size ≤ 140737488351232) (w : World) :
    Calls Try.prog 12 #[.string a] w fun e w' => e = .returned (.bool true) ∧ Below w.heap.size w w' := by
  obtain ⟨l, rfl⟩ : ∃ l, a = bs l := ⟨bl a, (bs_bl a).symm⟩
  rw [bs_size] at ha
  have HA := hid ha
  have hs := bs_size l
  clear ha
  by_cases hlt : 2000 < l.length
  · have t1 : decide ((2000 : Int) < (l.length : Int)) = true := by simp; omega
    go_enter Try.func12, Try.ntmps12
    go_wp2_with fail
    refine (awake02 _).mono ?_
    rintro e w1 ⟨rfl, hb⟩
    have HB := hid hb
    clear hb
    go_wp2
    go_ret
    exact ⟨rfl, HB.out⟩
  · have t1 : decide ((2000 : Int) < (l.length : Int)) = false := by simp; omega
    have t2 : ¬ (2000 : Int) < (l.length : Int) := by omega
    go_enter Try.func12, Try.ntmps12
    go_wp2_with fail
    refine (shaSum l (by omega) _).mono ?_
    rintro e w1 ⟨rfl, hb1⟩
    go_wp2_with fail
    refine (refSum l (by omega) _).mono ?_
    rintro e w2 ⟨rfl, hb2⟩
    have HB2 := hid (Grow.trans hb1 hb2)
    clear hb1 hb2
    have heq := id_eql_self (shaOf l) (shaOf_length l)
    have hgd := id_guard .eql (shaOf l) (shaOf l)
    generalize shaOf l = F at *
    generalize idV F = V at *
    go_wp2_with fail
    refine (awake02 _).mono ?_
    rintro e w3 ⟨rfl, hb3⟩
    have HB3 := hid (Grow.trans HB2.out hb3)
    clear hb3
    go_wp2
    go_ret
    exact ⟨rfl, HB3.out⟩
theorem shaEdges (n b : Int) (hn : (Lit.int .u8 n).wf = true) (hb : (Lit.int .u8 b).wf = true) (w : World) :
    Calls Try.prog 13 #[.int .u8 n, .int .u8 b] w fun e w' => e = .returned (.bool true) ∧ Below w.heap.size w w' := by
  have hn2 : 0 ≤ n ∧ n < 256 := by simp [Lit.wf, IntKind.min, IntKind.max, IntKind.signed, IntKind.bits] at hn; omega
  have hb2 : 0 ≤ b ∧ b < 256 := by simp [Lit.wf, IntKind.min, IntKind.max, IntKind.signed, IntKind.bits] at hb; omega
  obtain ⟨m, hm⟩ : ∃ m : Nat, n % 140 = m := ⟨(n % 140).toNat, by omega⟩
  have hm140 : m < 140 := by omega
  obtain ⟨x, rfl⟩ : ∃ x : UInt8, b = (x.toNat : Int) := ⟨UInt8.ofNat b.toNat, by rw [UInt8.toNat_ofNat']; omega⟩
  clear hn hb
  go_enter Try.func13, Try.ntmps13
  go_wp2_with fail
  go_loopg [5, 9] (m + 1) (fun q s i wr => ∃ k : Nat, k ≤ m ∧ q = m + 1 - k ∧ i = .int .i64 k ∧ s = .string (bs (List.replicate k x)) ∧ Hid (Grow w wr))
  case atStart => exact ⟨0, by omega, rfl, rfl, rfl, hid (Below.refl _ _)⟩
  case round =>
    obtain ⟨k, hk, hq, rfl, rfl, hB⟩ := hrel
    by_cases hlt : k < m
    · have t1 : (k : Int) < (m : Int) := by omega
      have hcv := fun (W : World) (h : W.heap[wr.heap.size]? = some (.cells (u8s [x]).toArray 5 (0, 0))) => run_str_block (P := Try.prog) W 57 5 9 5 Try.underlying57 Try.underlying5 Try.underlying9 wr.heap.size 1 [x] (0, 0) h 1 rfl
      have hcv2 := hcv (wr.alloc (.cells #[.int .u8 (x.toNat : Int)] 5)) (heap_alloc_new _ _)
      have hs1 : (bs [x]).size = 1 := by rw [bs_size]; rfl
      have hs2 : (bs (List.replicate k x)).size = k := by rw [bs_size]; simp
      have H3 := hid (show bs (List.replicate k x) ++ bs [x] = bs (List.replicate (k + 1) x) by rw [bs_append, List.replicate_succ'])
      clear hcv
      generalize bs [x] = c1 at *
      generalize bs (List.replicate k x) = c2 at *
      go_wp2
      go_roundg (m + 1 - (k + 1))
      case rel => exact ⟨k + 1, by omega, rfl, by go_num, by rw [H3.out], hid (hB.out.trans (grow_alloc _ _))⟩
      case measure => omega
    · obtain rfl : k = m := by omega
      go_wp2_with fail
      refine (shaSum (List.replicate k x) (by simp; omega) _).mono ?_
      rintro e w1 ⟨rfl, hb1⟩
      go_wp2_with fail
      refine (refSum (List.replicate k x) (by simp; omega) _).mono ?_
      rintro e w2 ⟨rfl, hb2⟩
      have HB2 := hid (Grow.trans hB.out (Grow.trans hb1 hb2))
      clear hb1 hb2
      have heq := id_eql_self (shaOf (List.replicate k x)) (shaOf_length _)
      have hgd := id_guard .eql (shaOf (List.replicate k x)) (shaOf (List.replicate k x))
      generalize shaOf (List.replicate k x) = F at *
      generalize idV F = V at *
      go_wp2_with fail
      refine (awake02 _).mono ?_
      rintro e w3 ⟨rfl, hb3⟩
      have HB3 := hid (Grow.trans HB2.out hb3)
      clear hb3
      go_wp2
      go_ret
      exact ⟨rfl, HB3.out⟩
end Go.Proofs.Ytfkfhhkggpfcgaa
