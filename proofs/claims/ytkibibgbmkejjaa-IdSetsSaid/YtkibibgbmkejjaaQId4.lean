import Derived.Test.YtkibibgbmkejjaaQId3
set_option linter.unusedSimpArgs false
set_option linter.unusedVariables false
namespace Go.Proofs.Ytkibibgbmkejjaa
open Go.RowKit
open Go.Qk
set_option maxHeartbeats 1000000
set_option maxRecDepth 100000
theorem digX : ∀ n : Fin 16, (⟨#[48, 49, 50, 51, 52, 53, 54, 55, 56, 57, 97, 98, 99, 100, 101, 102]⟩ : ByteArray).extract n.val (n.val + 1) = bs [dig n.val] := by decide +kernel
theorem refHex (l : List UInt8) (hl : l.length = 32) (w : World) :
    Calls Try.prog 22 #[idV l] w fun e w' => e = .returned (.string (bs (hexOf l 32))) ∧ Below w.heap.size w w' := by
  unfold idV
  go_enter Try.func22, Try.ntmps22
  go_upto_region 1 with (fail)
  have HG0 := hid (show (w.alloc (.cells (u8s l).toArray 23)).heap[w.heap.size]? = some (.cells (u8s l).toArray 23 (0, 0)) from heap_alloc_new _ _)
  have HB0 := hid (grow_alloc w (.cells (u8s l).toArray 23))
  generalize w.alloc (.cells (u8s l).toArray 23) = W at *
  go_wp2_with fail
  go_loopg [4, 5] 33 (fun q v i wr => ∃ k : Nat, k ≤ 32 ∧ q = 33 - k ∧ i = .int .i64 k ∧ v = .string (bs (hexOf l k)) ∧ Hid (Grow W wr))
  case atStart => exact ⟨0, by omega, rfl, rfl, rfl, hid (Below.refl _ _)⟩
  case round =>
    obtain ⟨k, hk, hq, rfl, rfl, hB⟩ := hrel
    by_cases hlt : k < 32
    · have n0 : (0 : Int) ≤ (k : Int) := by omega
      have n1 : (k : Int) < 32 := by omega
      have c1 : ∀ w', Grow wr w' → w'.cell? ⟨w.heap.size, k, none⟩ = some (.int .u8 (b8 l k)) := fun w' hw' => cell_u8 HG0.out (hB.out.trans hw') k (by omega)
      have b0 := b8_lo l k
      have b1 := b8_hi l k
      have hx := (l.getD k 0).toNat_lt
      have m1 : (l.getD k 0).toNat / 16 < 16 := by omega
      have m2 : (l.getD k 0).toNat % 16 < 16 := by omega
      have e1 : b8 l k / 16 = (((l.getD k 0).toNat / 16 : Nat) : Int) := by rw [b8]; omega
      have e2 : b8 l k % 16 = (((l.getD k 0).toNat % 16 : Nat) : Int) := by rw [b8]; omega
      have x1 := digX ⟨_, m1⟩
      have x2 := digX ⟨_, m2⟩
      simp only at x1 x2
      have hcat := hid (show bs (hexOf l k) ++ (bs [dig ((l.getD k 0).toNat / 16)] ++ bs [dig ((l.getD k 0).toNat % 16)]) = bs (hexOf l (k + 1)) by rw [hexOf_succ l k (by omega), bs_append, bs_append]; rfl)
      have s1 : (bs [dig ((l.getD k 0).toNat / 16)]).size = 1 := by rw [bs_size]; rfl
      have s2 : (bs [dig ((l.getD k 0).toNat % 16)]).size = 1 := by rw [bs_size]; rfl
      have s3 : (bs (hexOf l k)).size = 2 * k := by rw [bs_size, hexOf_length l k (by omega)]
      have e0 : IntKind.i64.wrap (b8 l k) = b8 l k := by simp [IntKind.wrap, IntKind.signed, IntKind.bits]; omega
      have e3 : (b8 l k).tdiv 16 = (((l.getD k 0).toNat / 16 : Nat) : Int) := by rw [Int.tdiv_eq_ediv_of_nonneg b0]; exact e1
      have e4 : (b8 l k).tmod 16 = (((l.getD k 0).toNat % 16 : Nat) : Int) := by rw [Int.tmod_eq_emod_of_nonneg b0]; exact e2
      clear hx e1 e2
      generalize b8 l k = b at *
      generalize bs [dig ((l.getD k 0).toNat / 16)] = d1 at *
      generalize bs [dig ((l.getD k 0).toNat % 16)] = d2 at *
      generalize (l.getD k 0).toNat / 16 = y1 at *
      generalize (l.getD k 0).toNat % 16 = y2 at *
      generalize bs (hexOf l k) = s at *
      have f1 : IntKind.i64.wrap (y1 : Int) = y1 := by simp [IntKind.wrap, IntKind.signed, IntKind.bits]; omega
      have f2 : IntKind.i64.wrap (y2 : Int) = y2 := by simp [IntKind.wrap, IntKind.signed, IntKind.bits]; omega
      have f3 : IntKind.i64.wrap ((y1 : Int) + 1) = (y1 : Int) + 1 := by simp [IntKind.wrap, IntKind.signed, IntKind.bits]; omega
      have f4 : IntKind.i64.wrap ((y2 : Int) + 1) = (y2 : Int) + 1 := by simp [IntKind.wrap, IntKind.signed, IntKind.bits]; omega
      have g1 : 0 ≤ (y1 : Int) + 1 ∧ (y1 : Int) + 1 ≤ 16 := by omega
      have g2 : 0 ≤ (y2 : Int) + 1 ∧ (y2 : Int) + 1 ≤ 16 := by omega
      have g3 : (y1 : Int) ≤ (y1 : Int) + 1 := by omega
      have g4 : (y2 : Int) ≤ (y2 : Int) + 1 := by omega
      have g5 : ((y1 : Int) + 1).toNat = y1 + 1 := by omega
      have g6 : ((y2 : Int) + 1).toNat = y2 + 1 := by omega
      go_wp2
      (refine' wp_region_head 12 0 [_, _, _, _, _, _, _, _, _, _, _, _] rfl (by kernel_rfl) (by kernel_rfl) ?hreg1; case' hreg1 => simp only [List.take_succ_cons, List.take_zero, List.zip_cons_cons, List.zip_nil_right, List.drop_succ_cons, List.drop_zero, List.drop_nil])
      (iterate 12 (refine' head_val ?_ ?_ ?_ ?_; rotate_left; (· rfl); (· first | exact fun _ _ _ => trivial | (intro t ht w; cases ht; simp [upE])); (· intro w' hw' _; go_simp; with_reducible rfl); simp only [Act.put, List.setIfInBounds_toArray, List.set_cons_zero, List.set_cons_succ]))
      refine head_nil ?_
      intro w1 hw1 _
      refine wpList_nil ?_
      have HB1 := hid (hB.out.trans hw1)
      clear c1 hw1 e0 e3 e4 b0 b1
      have h9 : ¬ 9223372036854775807 < 2 * k + 2 := by omega
      go_wp2
      (refine' wp_region_head 14 0 [_, _, _, _, _, _, _, _, _, _, _, _, _, _] rfl (by kernel_rfl) (by kernel_rfl) ?hreg2; case' hreg2 => simp only [List.take_succ_cons, List.take_zero, List.zip_cons_cons, List.zip_nil_right, List.drop_succ_cons, List.drop_zero, List.drop_nil])
      (iterate 14 (refine' head_val ?_ ?_ ?_ ?_; rotate_left; (· rfl); (· first | exact fun _ _ _ => trivial | (intro t ht w; cases ht; simp [upE])); (· intro w' hw' _; go_simp; with_reducible rfl); simp only [Act.put, List.setIfInBounds_toArray, List.set_cons_zero, List.set_cons_succ]))
      refine head_nil ?_
      intro w2 hw2 _
      refine wpList_nil ?_
      have HB2 := hid (HB1.out.trans hw2)
      clear hw2
      go_wp2
      go_roundg (33 - (k + 1))
      case rel => exact ⟨k + 1, by omega, rfl, by go_num, by rw [hcat.out], HB2⟩
      case measure => omega
    · obtain rfl : k = 32 := by omega
      go_wp2
      go_ret
      exact ⟨rfl, HB0.out.trans hB.out⟩
end Go.Proofs.Ytkibibgbmkejjaa
