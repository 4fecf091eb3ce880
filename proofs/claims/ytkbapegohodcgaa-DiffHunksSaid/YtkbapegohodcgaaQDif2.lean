/- slices.Equal on texts, quitclaimref11.Line and Lines: contracts. -/
import Derived.Test.YtkbapegohodcgaaQDif1
set_option linter.unusedSimpArgs false
set_option linter.unusedVariables false
namespace Go.Proofs.Ytkbapegohodcgaa
open Go.RowKit
open Go.Qk hiding rotr b4
open Pac
set_option maxHeartbeats 1000000
set_option maxRecDepth 100000
theorem slicesEqualS (A B : Option Addr) (n m c d : Nat) (xs ys : List ByteArray) (w : World) (hx : StrRow w A xs) (hy : StrRow w B ys) (hn : xs.length = n) (hm : ys.length = m) :
    Calls Try.prog 115 #[.slice A n c, .slice B m d] w fun e w' => e = .returned (.bool (decide (xs = ys))) ∧ Below w.heap.size w w' := by
  subst hn hm
  have HX := hid hx
  have HY := hid hy
  have bx := hx.1
  have by' := hy.1
  clear hx hy
  by_cases hl : xs.length = ys.length
  · have HL := hid hl
    have tl : ((xs.length : Int) != (ys.length : Int)) = false := by simp; omega
    clear hl
    go_enter Try.func115, Try.ntmps115
    have HB := hid (grow_refl w)
    go_wp2_with fail
    go_loopg [13] (xs.length + 1) (fun z i wr => ∃ k : Nat, k ≤ xs.length ∧ z = xs.length + 1 - k ∧ i = .int .i64 (k : Int) ∧ Hid (sameTo k xs ys = true) ∧ Hid (Grow w wr))
    case atStart => exact ⟨0, by omega, by omega, rfl, hid (by simp [sameTo]), HB⟩
    case round =>
      clear HB tl
      obtain ⟨k, hk, hz, rfl, HS, HB⟩ := hrel
      by_cases hlt : k < xs.length
      · have k0 : (0 : Int) ≤ (k : Int) := by omega
        have k1 : (k : Int) < (xs.length : Int) := by omega
        have k2 : (k : Int) < (ys.length : Int) := by have := HL.out; omega
        obtain ⟨ad, rfl, hc⟩ := (HX.out.grow HB.out).at_ k hlt
        obtain ⟨bd, rfl, hd⟩ := (HY.out.grow HB.out).at_ k (by have := HL.out; omega)
        have HST := hid (sameTo_step HS.out hlt (by have := HL.out; omega))
        have HNE := hid (show xs.getD k ByteArray.empty ≠ ys.getD k ByteArray.empty → xs ≠ ys from fun h e => h (by rw [e]))
        have HC := hid hc
        have HD := hid hd
        clear hc hd
        generalize xs.getD k ByteArray.empty = x at *
        generalize ys.getD k ByteArray.empty = y at *
        go_wp2_with fail
        (refine' wp_region_head 9 0 [_, _, _, _, _, _, _, _, _] rfl (by kernel_rfl) (by kernel_rfl) ?hreg1; case' hreg1 => simp only [List.take_succ_cons, List.take_zero, List.zip_cons_cons, List.zip_nil_right, List.drop_succ_cons, List.drop_zero, List.drop_nil])
        (refine' head_val ?dw2 ?de2 ?dr2 ?dh2; (case' dw2 => rfl); (case' de2 => (first | exact fun _ _ _ => trivial | (intro t ht w; cases ht; simp [upE]))); (case' dr2 => (intro w' hw' _; go_simp; with_reducible rfl)); (case' dh2 => (try simp only [Act.put, List.setIfInBounds_toArray, List.set_cons_zero, List.set_cons_succ]))); (refine' head_val ?dw3 ?de3 ?dr3 ?dh3; (case' dw3 => rfl); (case' de3 => (first | exact fun _ _ _ => trivial | (intro t ht w; cases ht; simp [upE]))); (case' dr3 => (intro w' hw' _; go_simp; with_reducible rfl)); (case' dh3 => (try simp only [Act.put, List.setIfInBounds_toArray, List.set_cons_zero, List.set_cons_succ]))); (refine' head_val ?dw4 ?de4 ?dr4 ?dh4; (case' dw4 => rfl); (case' de4 => (first | exact fun _ _ _ => trivial | (intro t ht w; cases ht; simp [upE]))); (case' dr4 => (intro w' hw' _; go_simp; with_reducible rfl)); (case' dh4 => (try simp only [Act.put, List.setIfInBounds_toArray, List.set_cons_zero, List.set_cons_succ])))
        (refine' head_loadCell rfl ?_ rfl rfl (HC.out) Try.underlying9 rfl ?_; (first | exact fun _ _ _ => trivial | (intro t ht w; cases ht; simp [upE])); try simp only [Act.put, List.setIfInBounds_toArray, List.set_cons_zero, List.set_cons_succ])
        (refine' head_val ?dw5 ?de5 ?dr5 ?dh5; (case' dw5 => rfl); (case' de5 => (first | exact fun _ _ _ => trivial | (intro t ht w; cases ht; simp [upE]))); (case' dr5 => (intro w' hw' _; go_simp; with_reducible rfl)); (case' dh5 => (try simp only [Act.put, List.setIfInBounds_toArray, List.set_cons_zero, List.set_cons_succ]))); (refine' head_val ?dw6 ?de6 ?dr6 ?dh6; (case' dw6 => rfl); (case' de6 => (first | exact fun _ _ _ => trivial | (intro t ht w; cases ht; simp [upE]))); (case' dr6 => (intro w' hw' _; go_simp; with_reducible rfl)); (case' dh6 => (try simp only [Act.put, List.setIfInBounds_toArray, List.set_cons_zero, List.set_cons_succ]))); (refine' head_val ?dw7 ?de7 ?dr7 ?dh7; (case' dw7 => rfl); (case' de7 => (first | exact fun _ _ _ => trivial | (intro t ht w; cases ht; simp [upE]))); (case' dr7 => (intro w' hw' _; go_simp; with_reducible rfl)); (case' dh7 => (try simp only [Act.put, List.setIfInBounds_toArray, List.set_cons_zero, List.set_cons_succ])))
        (refine' head_loadCell rfl ?_ rfl rfl (HD.out) Try.underlying9 rfl ?_; (first | exact fun _ _ _ => trivial | (intro t ht w; cases ht; simp [upE])); try simp only [Act.put, List.setIfInBounds_toArray, List.set_cons_zero, List.set_cons_succ])
        (refine' head_val ?dw8 ?de8 ?dr8 ?dh8; (case' dw8 => rfl); (case' de8 => (first | exact fun _ _ _ => trivial | (intro t ht w; cases ht; simp [upE]))); (case' dr8 => (intro w' hw' _; go_simp; with_reducible rfl)); (case' dh8 => (try simp only [Act.put, List.setIfInBounds_toArray, List.set_cons_zero, List.set_cons_succ])))
        refine head_nil ?_
        intro w1 hb _
        replace HB := hid (Grow.trans HB.out hb)
        clear hb
        refine wpList_nil ?_
        generalize hzz : (!(x.toList == y.toList)) = zb
        have HZZ := hid hzz
        clear hzz
        cases zb with
        | false =>
          have hxy : x = y := by
            by_cases e : x = y
            · exact e
            · have h := HZZ.out
              rw [toList_beq_ne e] at h
              cases h
          have HS2 := hid (show sameTo (k + 1) xs ys = true by rw [HST.out]; simp [hxy])
          clear hxy HZZ
          go_wp2_with fail
          go_roundg (xs.length + 1 - (k + 1))
          case rel => exact ⟨k + 1, by omega, rfl, by go_num, HS2, HB⟩
          case measure => omega
        | true =>
          have hxy : x ≠ y := fun e => by
            have h := HZZ.out
            rw [e] at h
            simp at h
          have HF := hid (show decide (xs = ys) = false by simp [HNE.out hxy])
          clear hxy HZZ
          go_wp2_with fail
          go_ret
          exact ⟨by rw [HF.out]; rfl, HB.out⟩
      · have HE := hid (show decide (xs = ys) = true by simp [sameTo_all HS.out (by omega) HL.out])
        go_wp2_with fail
        go_ret
        exact ⟨by rw [HE.out]; rfl, HB.out⟩
  · have tl : ((xs.length : Int) != (ys.length : Int)) = true := by simp; omega
    have HF := hid (show decide (xs = ys) = false by simp; rintro rfl; exact hl rfl)
    clear hl
    go_enter Try.func115, Try.ntmps115
    have HB := hid (grow_refl w)
    go_wp2_with fail
    go_ret
    exact ⟨by rw [HF.out]; rfl, HB.out⟩
theorem refLine (S : List UInt8) (hs : S.length ≤ 9223372036854775807) (w : World) :
    Calls Try.prog 98 #[.string (bs S)] w fun e w' => e = .returned (.bool (lineB (bs S))) ∧ Below w.heap.size w w' := by
  have hsz := bs_size S
  go_enter Try.func98, Try.ntmps98
  have HB := hid (grow_refl w)
  go_wp2_with fail
  go_loopg [3] (S.length + 1) (fun z i wr => ∃ k : Nat, k ≤ S.length ∧ z = S.length + 1 - k ∧ i = .int .i64 (k : Int) ∧ Hid (∀ j, j < k → S.getD j 0 ≠ 10) ∧ Hid (Grow w wr))
  case atStart => exact ⟨0, by omega, by omega, rfl, hid (fun j hj => by omega), HB⟩
  case round =>
    clear HB
    obtain ⟨k, hk, hz, rfl, HS, HB⟩ := hrel
    by_cases hlt : k < S.length
    · have k0 : (0 : Int) ≤ (k : Int) := by omega
      have k1 : (k : Int) < (S.length : Int) := by omega
      have hix : ∀ w, (Instr.index 9 (.string (bs S)) (.int .i64 k)).run Try.prog w = .ok (.int .u8 (b8 S k)) w := fun w => by
        have := run_index_str (P := Try.prog) 9 (bs S) k (by omega) k rfl w Try.underlying9
        rw [bl_bs] at this
        exact this
      have HIN := hid (show S.getD k 0 ∈ S by simp [hlt])
      by_cases h10 : b8 S k = 10
      · have e10 : S.getD k 0 = 10 := by
          unfold b8 at h10
          exact UInt8.toNat_inj.1 (by have : ((10 : UInt8)).toNat = 10 := rfl; omega)
        have HF := hid (show lineB (bs S) = false by unfold lineB; rw [bl_bs]; have := HIN.out; rw [e10] at this; simp [this])
        clear e10 HIN
        generalize b8 S k = b at *
        subst h10
        go_wp2_with fail
        go_ret
        exact ⟨ret_bool HF.out.symm, HB.out⟩
      · have HS2 := hid (show ∀ j, j < k + 1 → S.getD j 0 ≠ 10 from fun j hj => by
          by_cases e : j = k
          · subst e; intro e; apply h10; unfold b8; rw [e]; rfl
          · exact HS.out j (by omega))
        clear HIN
        generalize b8 S k = b at *
        go_wp2_with fail
        go_roundg (S.length + 1 - (k + 1))
        case rel => exact ⟨k + 1, by omega, rfl, by go_num, HS2, HB⟩
        case measure => omega
    · have HF := hid (show lineB (bs S) = decide ((S.length : Int) ≤ 200) by
        unfold lineB
        rw [bl_bs, bs_size]
        have : (10 : UInt8) ∉ S := fun h => by
          obtain ⟨j, hj, e⟩ := List.getElem_of_mem h
          exact HS.out j (by omega) (by simp [hj, e])
        simp [this]
        omega)
      go_wp2_with fail
      go_ret
      exact ⟨ret_bool (by rw [HF.out]), HB.out⟩
theorem refLines (A : Option Addr) (n c : Nat) (xs : List ByteArray) (w : World) (hx : StrRow w A xs) (hn : xs.length = n) (hsa : ∀ s ∈ xs, s.size ≤ 9223372036854775807) :
    Calls Try.prog 53 #[.slice A n c] w fun e w' => e = .returned (.bool (linesB xs)) ∧ Below w.heap.size w w' := by
  subst hn
  have HX := hid hx
  have HSA := hid hsa
  have bx := hx.1
  clear hx hsa
  go_enter Try.func53, Try.ntmps53
  have HB := hid (grow_refl w)
  go_wp2_with fail
  go_loopg [3] (xs.length + 1) (fun z i wr => ∃ k : Nat, k ≤ xs.length ∧ z = xs.length + 1 - k ∧ i = .int .i64 (k : Int) ∧ Hid ((xs.take k).all lineB = true) ∧ Hid (Grow w wr))
  case atStart => exact ⟨0, by omega, by omega, rfl, hid (by simp), HB⟩
  case round =>
    clear HB
    obtain ⟨k, hk, hz, rfl, HS, HB⟩ := hrel
    by_cases hlt : k < xs.length
    · have k0 : (0 : Int) ≤ (k : Int) := by omega
      have k1 : (k : Int) < (xs.length : Int) := by omega
      obtain ⟨ad, rfl, hc⟩ := (HX.out.grow HB.out).at_ k hlt
      have HL := hid (fun w => refLine (bl (xs.getD k ByteArray.empty)) (by rw [bl_length]; exact HSA.out _ (by simp [hlt])) w)
      rw [bs_bl] at HL
      have HT := hid (all_take_step lineB xs k hlt)
      have HF := hid (all_false_at lineB xs k hlt)
      generalize xs.getD k ByteArray.empty = x at *
      go_wp2_with fail
      refine (HL.out _).mono ?_
      rintro _ w1 ⟨rfl, hb⟩
      have HB1 := hid (Grow.trans HB.out hb)
      clear hb HL
      generalize hl : lineB x = z1
      cases z1 with
      | false =>
        have HF2 := hid (show linesB xs = false by unfold linesB; rw [HF.out hl]; rfl)
        clear hl HF
        go_wp2_with fail
        go_ret
        exact ⟨ret_bool HF2.out.symm, HB1.out⟩
      | true =>
        have HS2 := hid (show (xs.take (k + 1)).all lineB = true by rw [HT.out, HS.out, hl]; rfl)
        clear hl HF HT
        go_wp2_with fail
        go_roundg (xs.length + 1 - (k + 1))
        case rel => exact ⟨k + 1, by omega, rfl, by go_num, HS2, HB1⟩
        case measure => omega
    · obtain rfl : k = xs.length := by omega
      rw [List.take_length] at HS
      have HF := hid (show linesB xs = decide ((xs.length : Int) ≤ 1000) by unfold linesB; rw [HS.out, Bool.true_and]; simp; omega)
      go_wp2_with fail
      go_ret
      exact ⟨ret_bool HF.out.symm, HB.out⟩
end Go.Proofs.Ytkbapegohodcgaa
