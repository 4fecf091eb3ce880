/- slices.BinarySearchFunc at ids, id.Has, id.Place; id.Rises and the document's. -/
import Derived.Test.YtffgifegaagndaaQSrt5
set_option linter.unusedSimpArgs false
set_option linter.unusedVariables false
namespace Go.Proofs.Ytffgifegaagndaa
open Go.RowKit
open Go.Qk hiding rotr b4
set_option maxHeartbeats 2000000
set_option maxRecDepth 100000
def bsF (xs : List (List UInt8)) (a : List UInt8) : Nat → Nat → Nat → Nat
  | 0, lo, _ => lo
  | f + 1, lo, hi => if lo < hi then (if lexLess (xs.getD ((lo + hi) / 2) []) a then bsF xs a f ((lo + hi) / 2 + 1) hi else bsF xs a f lo ((lo + hi) / 2)) else lo
def bsN (xs : List (List UInt8)) (a : List UInt8) : Nat := bsF xs a xs.length 0 xs.length
def bsHas (xs : List (List UInt8)) (a : List UInt8) : Bool := decide (bsN xs a < xs.length) && (xs.getD (bsN xs a) [] == a)
theorem cmp_zero : ∀ (l m : List UInt8), l.length = m.length → (Lib.compareBytes l m == 0) = (l == m)
  | [], [], _ => rfl
  | a :: l, b :: m, h => by
    have ih := cmp_zero l m (by simpa using h)
    unfold Lib.compareBytes
    by_cases h1 : a < b
    · have : a ≠ b := by rintro rfl; simp at h1
      simp [h1, this]
    · by_cases h2 : b < a
      · have : a ≠ b := by rintro rfl; simp at h1 h2
        simp [h1, h2, this]
      · have : a = b := by
          rw [UInt8.lt_iff_toNat_lt] at h1 h2
          exact UInt8.toNat_inj.1 (by omega)
        subst this
        simp only [h1, if_false]
        rw [ih, List.cons_beq_cons, beq_self_eq_true, Bool.true_and]
theorem idSearch (A : Option Addr) (n c : Nat) (xs : List (List UInt8)) (a : List UInt8) (w : World) (hx : IdRow w A xs) (hn : xs.length = n) (h32 : ∀ s ∈ xs, s.length = 32) (ha : a.length = 32) (hmax : n ≤ 1000000) :
    Calls Try.prog 123 #[.slice A n c, idV a, .func (.func 119) #[] #[]] w fun e w' =>
      e = .returned (.tuple #[.int .i64 (bsN xs a : Int), .bool (bsHas xs a)]) ∧ Below w.heap.size w w' := by
  have HX := hid hx
  have HN := hid hn
  have H32 := hid h32
  have HA := hid ha
  have nb : (n : Int) ≤ 1000000 := by omega
  obtain ⟨R, hR⟩ : ∃ R, R = bsN xs a := ⟨_, rfl⟩
  have HR0 := hid (show bsF xs a n 0 n = R by rw [hR, bsN, hn])
  have HRE := hid hR
  clear hx hn h32 ha hR
  go_enter Try.func123, Try.ntmps123
  have HB := hid (grow_refl w)
  apply wp_seq_k; intro _ _; apply wp_region_lit
  refine op_box (l := a) rfl rfl rfl ?_
  intro gb w1 hgl hgu hb hr
  have BXL := hid (Nat.le_trans HB.out.size hgl)
  replace HB := hid (Grow.trans HB.out hb)
  have BX := hid hr; have BXU := hid hgu
  clear hr hgl hgu hb
  try simp only [Act.put, List.setIfInBounds_toArray, List.set_cons_zero, List.set_cons_succ]
  go_wp2_with fail
  go_loopg [9, 10] n (fun z v9 v10 wr => ∃ lo hi : Nat, v9 = .int .i64 (lo : Int) ∧ v10 = .int .i64 (hi : Int) ∧ lo ≤ hi ∧ hi ≤ n ∧ hi - lo ≤ z ∧ Hid (bsF xs a z lo hi = R) ∧ Hid (wr.heap[gb]? = some (.cells (u8s a).toArray 23 (0, 0))) ∧ Hid (Grow w wr))
  case atStart => exact ⟨0, n, rfl, rfl, Nat.zero_le _, Nat.le_refl _, by omega, HR0, BX, HB⟩
  case round =>
    clear BX HB HR0
    obtain ⟨lo, hi, rfl, rfl, hlh, hhn, hfz, HF, BX, HB⟩ := hrel
    by_cases hlt : lo < hi
    · obtain ⟨mid, hmid⟩ : ∃ m, m = (lo + hi) / 2 := ⟨_, rfl⟩
      have hmI : ((lo : Int) + (hi : Int)) / 2 = (mid : Int) := by omega
      have l0 : (0 : Int) ≤ (lo : Int) := by omega
      have l1 : (lo : Int) < (hi : Int) := by omega
      have l2 : (hi : Int) ≤ (n : Int) := by omega
      have m0 : (0 : Int) ≤ (mid : Int) := by omega
      have m1 : (mid : Int) < (n : Int) := by omega
      obtain ⟨ad, rfl, hc⟩ := (HX.out.grow HB.out).at_ mid (by rw [HN.out]; omega)
      have HC := hid hc
      have S1 := hid (getD_mem_len H32.out (show mid < xs.length by rw [HN.out]; omega))
      obtain ⟨f, rfl⟩ : ∃ f, gk = f + 1 := ⟨gk - 1, by omega⟩
      have HF2 := hid (show (if lexLess (xs.getD mid []) a then bsF xs a f (mid + 1) hi else bsF xs a f lo mid) = R by
        have := HF.out
        unfold bsF at this
        rw [if_pos hlt, ← hmid] at this
        exact this)
      have HM1 := hid (show lo ≤ mid ∧ mid < hi by omega)
      have HFZ := hid hfz
      clear hc HF hmid hfz
      generalize xs.getD mid [] = s at *
      have HCV := hid (cmp_less s a (by rw [S1.out, HA.out]))
      have HCP := hid (fun w => idCompare s a S1.out HA.out w)
      generalize Lib.compareBytes s a = cv at *
      go_wp2_with fail
      clear hmI
      (refine' wp_region_head 8 0 [_, _, _, _, _, _, _, _] rfl (by kernel_rfl) (by kernel_rfl) ?hreg1; case' hreg1 => simp only [List.take_succ_cons, List.take_zero, List.zip_cons_cons, List.zip_nil_right, List.drop_succ_cons, List.drop_zero, List.drop_nil])
      (refine' head_val ?dw2 ?de2 ?dr2 ?dh2; (case' dw2 => rfl); (case' de2 => (first | exact fun _ _ _ => trivial | (intro t ht w; cases ht; simp [upE]))); (case' dr2 => (intro w' hw' _; go_simp; with_reducible rfl)); (case' dh2 => (try simp only [Act.put, List.setIfInBounds_toArray, List.set_cons_zero, List.set_cons_succ]))); (refine' head_val ?dw3 ?de3 ?dr3 ?dh3; (case' dw3 => rfl); (case' de3 => (first | exact fun _ _ _ => trivial | (intro t ht w; cases ht; simp [upE]))); (case' dr3 => (intro w' hw' _; go_simp; with_reducible rfl)); (case' dh3 => (try simp only [Act.put, List.setIfInBounds_toArray, List.set_cons_zero, List.set_cons_succ]))); (refine' head_val ?dw4 ?de4 ?dr4 ?dh4; (case' dw4 => rfl); (case' de4 => (first | exact fun _ _ _ => trivial | (intro t ht w; cases ht; simp [upE]))); (case' dr4 => (intro w' hw' _; go_simp; with_reducible rfl)); (case' dh4 => (try simp only [Act.put, List.setIfInBounds_toArray, List.set_cons_zero, List.set_cons_succ]))); (refine' head_val ?dw5 ?de5 ?dr5 ?dh5; (case' dw5 => rfl); (case' de5 => (first | exact fun _ _ _ => trivial | (intro t ht w; cases ht; simp [upE]))); (case' dr5 => (intro w' hw' _; go_simp; with_reducible rfl)); (case' dh5 => (try simp only [Act.put, List.setIfInBounds_toArray, List.set_cons_zero, List.set_cons_succ])))
      (refine' head_loadAt (x := _) rfl ?_ rfl rfl (HC.out) (S1.out) ?_; (first | exact fun _ _ _ => trivial | (intro t ht w; cases ht; simp [upE])); try simp only [Act.put, List.setIfInBounds_toArray, List.set_cons_zero, List.set_cons_succ])
      (refine' head_loadId (x := _) rfl ?_ rfl rfl BX.out (HA.out) ?_; (first | exact fun _ _ _ => trivial | (intro t ht w; cases ht; simp [upE])); try simp only [Act.put, List.setIfInBounds_toArray, List.set_cons_zero, List.set_cons_succ])
      (refine' head_call ?cw6 ?ce6 ?cr6 ?cc6 ?ch6; (case' cw6 => rfl); (case' ce6 => (first | exact fun _ _ _ => trivial | (intro t ht w; cases ht; simp [upE]))); (case' cr6 => (intro w'; go_simp; first | exact ⟨rfl, rfl⟩ | with_reducible rfl)); (case' cc6 => (intro w' hw' _; exact HCP.out w')); (case' ch6 => (try simp only [Act.put, List.setIfInBounds_toArray, List.set_cons_zero, List.set_cons_succ])))
      (refine' head_val ?dw7 ?de7 ?dr7 ?dh7; (case' dw7 => rfl); (case' de7 => (first | exact fun _ _ _ => trivial | (intro t ht w; cases ht; simp [upE]))); (case' dr7 => (intro w' hw' _; go_simp; with_reducible rfl)); (case' dh7 => (try simp only [Act.put, List.setIfInBounds_toArray, List.set_cons_zero, List.set_cons_succ])))
      refine head_nil ?_
      intro w1 hb _
      refine wpList_nil ?_
      replace HB := hid (Grow.trans HB.out hb)
      replace BX := hid (grow_block BX.out hb)
      clear hb
      clear HC HCP
      generalize hzz : decide (cv < 0) = zb
      rw [hzz] at HCV
      clear hzz
      cases zb with
      | true =>
        have HF3 := hid (show bsF xs a f (mid + 1) hi = R by have := HF2.out; rw [← HCV.out, if_pos rfl] at this; exact this)
        clear HF2 HCV
        go_wp2_with fail
        go_roundg f
        case rel => exact ⟨mid + 1, hi, by go_num, rfl, by have := HM1.out; omega, by omega, by have := HFZ.out; have := HM1.out; omega, HF3, BX, HB⟩
        case measure => omega
      | false =>
        have HF3 := hid (show bsF xs a f lo mid = R by have := HF2.out; rw [← HCV.out, if_neg (by simp)] at this; exact this)
        clear HF2 HCV
        go_wp2_with fail
        go_roundg f
        case rel => exact ⟨lo, mid, rfl, rfl, by have := HM1.out; omega, by have := HM1.out; omega, by have := HFZ.out; have := HM1.out; omega, HF3, BX, HB⟩
        case measure => omega
    · obtain rfl : lo = hi := by omega
      have HRL := hid (show R = lo by
        have := HF.out
        cases gk with
        | zero => exact this.symm
        | succ f => unfold bsF at this; rw [if_neg (by omega)] at this; exact this.symm)
      have l0 : (0 : Int) ≤ (lo : Int) := by omega
      by_cases hln : lo < n
      · have l1 : (lo : Int) < (n : Int) := by omega
        obtain ⟨ad, rfl, hc⟩ := (HX.out.grow HB.out).at_ lo (by rw [HN.out]; omega)
        have HC := hid hc
        have S1 := hid (getD_mem_len H32.out (show lo < xs.length by rw [HN.out]; omega))
        have HZ := hid (show bsHas xs a = (xs.getD lo [] == a) by
          unfold bsHas
          rw [← HRE.out, HRL.out, HN.out, decide_eq_true hln, Bool.true_and])
        clear hc HF hlh hhn hfz
        generalize xs.getD lo [] = s at *
        have HCV := hid (cmp_zero s a (by rw [S1.out, HA.out]))
        have HCP := hid (fun w => idCompare s a S1.out HA.out w)
        generalize Lib.compareBytes s a = cv at *
        have t1 : decide ((lo : Int) < (n : Int)) = true := by simp; omega
        go_wp2_with fail
        (refine' wp_region_head 16 0 [_, _, _, _, _, _, _, _, _, _, _, _, _, _, _, _] rfl (by kernel_rfl) (by kernel_rfl) ?hreg8; case' hreg8 => simp only [List.take_succ_cons, List.take_zero, List.zip_cons_cons, List.zip_nil_right, List.drop_succ_cons, List.drop_zero, List.drop_nil])
        (refine' head_val ?dw9 ?de9 ?dr9 ?dh9; (case' dw9 => rfl); (case' de9 => (first | exact fun _ _ _ => trivial | (intro t ht w; cases ht; simp [upE]))); (case' dr9 => (intro w' hw' _; go_simp; with_reducible rfl)); (case' dh9 => (try simp only [Act.put, List.setIfInBounds_toArray, List.set_cons_zero, List.set_cons_succ]))); (refine' head_val ?dw10 ?de10 ?dr10 ?dh10; (case' dw10 => rfl); (case' de10 => (first | exact fun _ _ _ => trivial | (intro t ht w; cases ht; simp [upE]))); (case' dr10 => (intro w' hw' _; go_simp; with_reducible rfl)); (case' dh10 => (try simp only [Act.put, List.setIfInBounds_toArray, List.set_cons_zero, List.set_cons_succ]))); (refine' head_val ?dw11 ?de11 ?dr11 ?dh11; (case' dw11 => rfl); (case' de11 => (first | exact fun _ _ _ => trivial | (intro t ht w; cases ht; simp [upE]))); (case' dr11 => (intro w' hw' _; go_simp; with_reducible rfl)); (case' dh11 => (try simp only [Act.put, List.setIfInBounds_toArray, List.set_cons_zero, List.set_cons_succ]))); (refine' head_val ?dw12 ?de12 ?dr12 ?dh12; (case' dw12 => rfl); (case' de12 => (first | exact fun _ _ _ => trivial | (intro t ht w; cases ht; simp [upE]))); (case' dr12 => (intro w' hw' _; go_simp; with_reducible rfl)); (case' dh12 => (try simp only [Act.put, List.setIfInBounds_toArray, List.set_cons_zero, List.set_cons_succ]))); (refine' head_val ?dw13 ?de13 ?dr13 ?dh13; (case' dw13 => rfl); (case' de13 => (first | exact fun _ _ _ => trivial | (intro t ht w; cases ht; simp [upE]))); (case' dr13 => (intro w' hw' _; go_simp; with_reducible rfl)); (case' dh13 => (try simp only [Act.put, List.setIfInBounds_toArray, List.set_cons_zero, List.set_cons_succ]))); (refine' head_val ?dw14 ?de14 ?dr14 ?dh14; (case' dw14 => rfl); (case' de14 => (first | exact fun _ _ _ => trivial | (intro t ht w; cases ht; simp [upE]))); (case' dr14 => (intro w' hw' _; go_simp; with_reducible rfl)); (case' dh14 => (try simp only [Act.put, List.setIfInBounds_toArray, List.set_cons_zero, List.set_cons_succ]))); (refine' head_val ?dw15 ?de15 ?dr15 ?dh15; (case' dw15 => rfl); (case' de15 => (first | exact fun _ _ _ => trivial | (intro t ht w; cases ht; simp [upE]))); (case' dr15 => (intro w' hw' _; go_simp; with_reducible rfl)); (case' dh15 => (try simp only [Act.put, List.setIfInBounds_toArray, List.set_cons_zero, List.set_cons_succ]))); (refine' head_val ?dw16 ?de16 ?dr16 ?dh16; (case' dw16 => rfl); (case' de16 => (first | exact fun _ _ _ => trivial | (intro t ht w; cases ht; simp [upE]))); (case' dr16 => (intro w' hw' _; go_simp; with_reducible rfl)); (case' dh16 => (try simp only [Act.put, List.setIfInBounds_toArray, List.set_cons_zero, List.set_cons_succ]))); (refine' head_val ?dw17 ?de17 ?dr17 ?dh17; (case' dw17 => rfl); (case' de17 => (first | exact fun _ _ _ => trivial | (intro t ht w; cases ht; simp [upE]))); (case' dr17 => (intro w' hw' _; go_simp; with_reducible rfl)); (case' dh17 => (try simp only [Act.put, List.setIfInBounds_toArray, List.set_cons_zero, List.set_cons_succ])))
        (refine' head_loadAt (x := _) rfl ?_ rfl rfl (HC.out) (S1.out) ?_; (first | exact fun _ _ _ => trivial | (intro t ht w; cases ht; simp [upE])); try simp only [Act.put, List.setIfInBounds_toArray, List.set_cons_zero, List.set_cons_succ])
        (refine' head_loadId (x := _) rfl ?_ rfl rfl BX.out (HA.out) ?_; (first | exact fun _ _ _ => trivial | (intro t ht w; cases ht; simp [upE])); try simp only [Act.put, List.setIfInBounds_toArray, List.set_cons_zero, List.set_cons_succ])
        (refine' head_call ?cw18 ?ce18 ?cr18 ?cc18 ?ch18; (case' cw18 => rfl); (case' ce18 => (first | exact fun _ _ _ => trivial | (intro t ht w; cases ht; simp [upE]))); (case' cr18 => (intro w'; go_simp; first | exact ⟨rfl, rfl⟩ | with_reducible rfl)); (case' cc18 => (intro w' hw' _; exact HCP.out w')); (case' ch18 => (try simp only [Act.put, List.setIfInBounds_toArray, List.set_cons_zero, List.set_cons_succ])))
        (refine' head_val ?dw19 ?de19 ?dr19 ?dh19; (case' dw19 => rfl); (case' de19 => (first | exact fun _ _ _ => trivial | (intro t ht w; cases ht; simp [upE]))); (case' dr19 => (intro w' hw' _; go_simp; with_reducible rfl)); (case' dh19 => (try simp only [Act.put, List.setIfInBounds_toArray, List.set_cons_zero, List.set_cons_succ]))); (refine' head_val ?dw20 ?de20 ?dr20 ?dh20; (case' dw20 => rfl); (case' de20 => (first | exact fun _ _ _ => trivial | (intro t ht w; cases ht; simp [upE]))); (case' dr20 => (intro w' hw' _; go_simp; with_reducible rfl)); (case' dh20 => (try simp only [Act.put, List.setIfInBounds_toArray, List.set_cons_zero, List.set_cons_succ]))); (refine' head_val ?dw21 ?de21 ?dr21 ?dh21; (case' dw21 => rfl); (case' de21 => (first | exact fun _ _ _ => trivial | (intro t ht w; cases ht; simp [upE]))); (case' dr21 => (intro w' hw' _; go_simp; with_reducible rfl)); (case' dh21 => (try simp only [Act.put, List.setIfInBounds_toArray, List.set_cons_zero, List.set_cons_succ]))); (refine' head_val ?dw22 ?de22 ?dr22 ?dh22; (case' dw22 => rfl); (case' de22 => (first | exact fun _ _ _ => trivial | (intro t ht w; cases ht; simp [upE]))); (case' dr22 => (intro w' hw' _; go_simp; with_reducible rfl)); (case' dh22 => (try simp only [Act.put, List.setIfInBounds_toArray, List.set_cons_zero, List.set_cons_succ])))
        refine head_nil ?_
        intro w1 hb _
        refine wpList_nil ?_
        replace HB := hid (Grow.trans HB.out hb)
        replace BX := hid (grow_block BX.out hb)
        clear hb
        go_wp2_with fail
        go_ret2
        refine ⟨?_, HB.out⟩
        rw [← HRE.out, HRL.out, HZ.out, ← HCV.out]
        rfl
      · have t1 : decide ((lo : Int) < (n : Int)) = false := by simp; omega
        have HZ := hid (show bsHas xs a = false by
          unfold bsHas
          rw [← HRE.out, HRL.out, HN.out, decide_eq_false hln, Bool.false_and])
        clear HF hlh hhn hfz
        go_wp2_with fail
        (refine' wp_region_head 16 0 [_, _, _, _, _, _, _, _, _, _, _, _, _, _, _, _] rfl (by kernel_rfl) (by kernel_rfl) ?hreg23; case' hreg23 => simp only [List.take_succ_cons, List.take_zero, List.zip_cons_cons, List.zip_nil_right, List.drop_succ_cons, List.drop_zero, List.drop_nil])
        (refine' head_val ?dw24 ?de24 ?dr24 ?dh24; (case' dw24 => rfl); (case' de24 => (first | exact fun _ _ _ => trivial | (intro t ht w; cases ht; simp [upE]))); (case' dr24 => (intro w' hw' _; go_simp; with_reducible rfl)); (case' dh24 => (try simp only [Act.put, List.setIfInBounds_toArray, List.set_cons_zero, List.set_cons_succ]))); (refine' head_val ?dw25 ?de25 ?dr25 ?dh25; (case' dw25 => rfl); (case' de25 => (first | exact fun _ _ _ => trivial | (intro t ht w; cases ht; simp [upE]))); (case' dr25 => (intro w' hw' _; go_simp; with_reducible rfl)); (case' dh25 => (try simp only [Act.put, List.setIfInBounds_toArray, List.set_cons_zero, List.set_cons_succ]))); (refine' head_val ?dw26 ?de26 ?dr26 ?dh26; (case' dw26 => rfl); (case' de26 => (first | exact fun _ _ _ => trivial | (intro t ht w; cases ht; simp [upE]))); (case' dr26 => (intro w' hw' _; go_simp; with_reducible rfl)); (case' dh26 => (try simp only [Act.put, List.setIfInBounds_toArray, List.set_cons_zero, List.set_cons_succ]))); (refine' head_val ?dw27 ?de27 ?dr27 ?dh27; (case' dw27 => rfl); (case' de27 => (first | exact fun _ _ _ => trivial | (intro t ht w; cases ht; simp [upE]))); (case' dr27 => (intro w' hw' _; go_simp; with_reducible rfl)); (case' dh27 => (try simp only [Act.put, List.setIfInBounds_toArray, List.set_cons_zero, List.set_cons_succ]))); (refine' head_val ?dw28 ?de28 ?dr28 ?dh28; (case' dw28 => rfl); (case' de28 => (first | exact fun _ _ _ => trivial | (intro t ht w; cases ht; simp [upE]))); (case' dr28 => (intro w' hw' _; go_simp; with_reducible rfl)); (case' dh28 => (try simp only [Act.put, List.setIfInBounds_toArray, List.set_cons_zero, List.set_cons_succ])))
        (refine' head_skip (V := fun _ _ => True) ?sw29 ?se29 ?sh29; (case' sw29 => rfl); (case' se29 => (first | exact fun _ _ _ => trivial | (intro t ht w; cases ht; simp [upE]))); (case' sh29 => (try simp only [Act.put, List.setIfInBounds_toArray, List.set_cons_zero, List.set_cons_succ]))); (refine' head_skip (V := fun _ _ => True) ?sw30 ?se30 ?sh30; (case' sw30 => rfl); (case' se30 => (first | exact fun _ _ _ => trivial | (intro t ht w; cases ht; simp [upE]))); (case' sh30 => (try simp only [Act.put, List.setIfInBounds_toArray, List.set_cons_zero, List.set_cons_succ]))); (refine' head_skip (V := fun _ _ => True) ?sw31 ?se31 ?sh31; (case' sw31 => rfl); (case' se31 => (first | exact fun _ _ _ => trivial | (intro t ht w; cases ht; simp [upE]))); (case' sh31 => (try simp only [Act.put, List.setIfInBounds_toArray, List.set_cons_zero, List.set_cons_succ]))); (refine' head_skip (V := fun _ _ => True) ?sw32 ?se32 ?sh32; (case' sw32 => rfl); (case' se32 => (first | exact fun _ _ _ => trivial | (intro t ht w; cases ht; simp [upE]))); (case' sh32 => (try simp only [Act.put, List.setIfInBounds_toArray, List.set_cons_zero, List.set_cons_succ]))); (refine' head_skip (V := fun _ _ => True) ?sw33 ?se33 ?sh33; (case' sw33 => rfl); (case' se33 => (first | exact fun _ _ _ => trivial | (intro t ht w; cases ht; simp [upE]))); (case' sh33 => (try simp only [Act.put, List.setIfInBounds_toArray, List.set_cons_zero, List.set_cons_succ]))); (refine' head_skip (V := fun _ _ => True) ?sw34 ?se34 ?sh34; (case' sw34 => rfl); (case' se34 => (first | exact fun _ _ _ => trivial | (intro t ht w; cases ht; simp [upE]))); (case' sh34 => (try simp only [Act.put, List.setIfInBounds_toArray, List.set_cons_zero, List.set_cons_succ]))); (refine' head_skip (V := fun _ _ => True) ?sw35 ?se35 ?sh35; (case' sw35 => rfl); (case' se35 => (first | exact fun _ _ _ => trivial | (intro t ht w; cases ht; simp [upE]))); (case' sh35 => (try simp only [Act.put, List.setIfInBounds_toArray, List.set_cons_zero, List.set_cons_succ]))); (refine' head_skip (V := fun _ _ => True) ?sw36 ?se36 ?sh36; (case' sw36 => rfl); (case' se36 => (first | exact fun _ _ _ => trivial | (intro t ht w; cases ht; simp [upE]))); (case' sh36 => (try simp only [Act.put, List.setIfInBounds_toArray, List.set_cons_zero, List.set_cons_succ])))
        (refine' head_val ?dw37 ?de37 ?dr37 ?dh37; (case' dw37 => rfl); (case' de37 => (first | exact fun _ _ _ => trivial | (intro t ht w; cases ht; simp [upE]))); (case' dr37 => (intro w' hw' _; go_simp; with_reducible rfl)); (case' dh37 => (try simp only [Act.put, List.setIfInBounds_toArray, List.set_cons_zero, List.set_cons_succ]))); (refine' head_val ?dw38 ?de38 ?dr38 ?dh38; (case' dw38 => rfl); (case' de38 => (first | exact fun _ _ _ => trivial | (intro t ht w; cases ht; simp [upE]))); (case' dr38 => (intro w' hw' _; go_simp; with_reducible rfl)); (case' dh38 => (try simp only [Act.put, List.setIfInBounds_toArray, List.set_cons_zero, List.set_cons_succ]))); (refine' head_val ?dw39 ?de39 ?dr39 ?dh39; (case' dw39 => rfl); (case' de39 => (first | exact fun _ _ _ => trivial | (intro t ht w; cases ht; simp [upE]))); (case' dr39 => (intro w' hw' _; go_simp; with_reducible rfl)); (case' dh39 => (try simp only [Act.put, List.setIfInBounds_toArray, List.set_cons_zero, List.set_cons_succ])))
        refine head_nil ?_
        intro w1 hb _
        refine wpList_nil ?_
        replace HB := hid (Grow.trans HB.out hb)
        replace BX := hid (grow_block BX.out hb)
        clear hb
        go_wp2_with fail
        go_ret2
        refine ⟨?_, HB.out⟩
        rw [← HRE.out, HRL.out, HZ.out]
        rfl
/-- Does a row rise? -/
def risesB (xs : List (List UInt8)) : Bool := (List.range xs.length).all fun i => i == 0 || lexLess (xs.getD (i - 1) []) (xs.getD i [])
theorem risesB_yes (xs : List (List UInt8)) (h : ∀ j, 1 ≤ j → j < xs.length → lexLess (xs.getD (j - 1) []) (xs.getD j []) = true) : risesB xs = true := by
  unfold risesB
  rw [List.all_eq_true]
  intro i hi
  have := List.mem_range.1 hi
  by_cases h0 : i = 0
  · simp [h0]
  · rw [h i (by omega) this]; simp
theorem risesB_no (xs : List (List UInt8)) (j : Nat) (h1 : 1 ≤ j) (h2 : j < xs.length) (h : lexLess (xs.getD (j - 1) []) (xs.getD j []) = false) : risesB xs = false := by
  cases hr : risesB xs with
  | false => rfl
  | true =>
    unfold risesB at hr
    rw [List.all_eq_true] at hr
    have := hr j (List.mem_range.2 h2)
    rw [h, show (j == 0) = false by simp; omega] at this
    cases this
theorem idRises (A : Option Addr) (n c : Nat) (xs : List (List UInt8)) (w : World) (hx : IdRow w A xs) (hn : xs.length = n) (h32 : ∀ s ∈ xs, s.length = 32) (hmax : n ≤ 1000000) :
    Calls Try.prog 61 #[.slice A n c] w fun e w' => e = .returned (.bool (risesB xs)) ∧ Below w.heap.size w w' := by
  have HX := hid hx
  have HN := hid hn
  have H32 := hid h32
  have nb : (n : Int) ≤ 1000000 := by omega
  clear hx hn h32
  go_enter Try.func61, Try.ntmps61
  have HB := hid (grow_refl w)
  go_wp2_with fail
  go_loopg [3] n (fun z i wr => ∃ k : Nat, 1 ≤ k ∧ (k ≤ n ∨ k = 1) ∧ z = n + 1 - k ∧ i = .int .i64 (k : Int) ∧ Hid (∀ j, 1 ≤ j → j < k → lexLess (xs.getD (j - 1) []) (xs.getD j []) = true) ∧ Hid (Grow w wr))
  case atStart => exact ⟨1, by omega, .inr rfl, by omega, rfl, hid (fun j h1 h2 => by omega), HB⟩
  case round =>
    clear HB
    obtain ⟨k, hk1, hk, hz, rfl, HK, HB⟩ := hrel
    by_cases hlt : k < n
    · obtain ⟨p, hp⟩ : ∃ p, p = k - 1 := ⟨_, rfl⟩
      have hkp : (k : Int) - 1 = (p : Int) := by omega
      have k0 : (0 : Int) ≤ (k : Int) := by omega
      have k1 : (k : Int) < (n : Int) := by omega
      have p0 : (0 : Int) ≤ (p : Int) := by omega
      have p1 : (p : Int) < (n : Int) := by omega
      have wp := wrap_nat p (by omega)
      have HR := hid (HX.out.grow HB.out)
      obtain ⟨ad, rfl, hc⟩ := HR.out.at_ k (by rw [HN.out]; exact hlt)
      obtain ⟨_, e1, hd⟩ := HR.out.at_ p (by rw [HN.out]; omega)
      cases e1
      have HC := hid hc
      have HD := hid hd
      have S1 := hid (getD_mem_len H32.out (show k < xs.length by rw [HN.out]; exact hlt))
      have S2 := hid (getD_mem_len H32.out (show p < xs.length by rw [HN.out]; omega))
      have HKF := hid (fun h => risesB_no xs k hk1 (by rw [HN.out]; exact hlt) (by rw [← hp]; exact h))
      have HKT := hid (fun (h : lexLess (xs.getD p []) (xs.getD k []) = true) => show ∀ j, 1 ≤ j → j < k + 1 → lexLess (xs.getD (j - 1) []) (xs.getD j []) = true from fun j h1 h2 => by
        by_cases hjk : j = k
        · subst hjk; rw [← hp]; exact h
        · exact HK.out j h1 (by omega))
      clear hc hd HR hp HK
      generalize xs.getD k [] = s1 at *
      generalize xs.getD p [] = s2 at *
      have HLS := hid (fun w => idLess s2 s1 S2.out S1.out w)
      generalize lexLess s2 s1 = lb at *
      go_wp2_with fail
      (refine' wp_region_head 11 0 [_, _, _, _, _, _, _, _, _, _, _] rfl (by kernel_rfl) (by kernel_rfl) ?hreg40; case' hreg40 => simp only [List.take_succ_cons, List.take_zero, List.zip_cons_cons, List.zip_nil_right, List.drop_succ_cons, List.drop_zero, List.drop_nil])
      (refine' head_val ?dw41 ?de41 ?dr41 ?dh41; (case' dw41 => rfl); (case' de41 => (first | exact fun _ _ _ => trivial | (intro t ht w; cases ht; simp [upE]))); (case' dr41 => (intro w' hw' _; go_simp; with_reducible rfl)); (case' dh41 => (try simp only [Act.put, List.setIfInBounds_toArray, List.set_cons_zero, List.set_cons_succ]))); (refine' head_val ?dw42 ?de42 ?dr42 ?dh42; (case' dw42 => rfl); (case' de42 => (first | exact fun _ _ _ => trivial | (intro t ht w; cases ht; simp [upE]))); (case' dr42 => (intro w' hw' _; go_simp; with_reducible rfl)); (case' dh42 => (try simp only [Act.put, List.setIfInBounds_toArray, List.set_cons_zero, List.set_cons_succ]))); (refine' head_val ?dw43 ?de43 ?dr43 ?dh43; (case' dw43 => rfl); (case' de43 => (first | exact fun _ _ _ => trivial | (intro t ht w; cases ht; simp [upE]))); (case' dr43 => (intro w' hw' _; go_simp; with_reducible rfl)); (case' dh43 => (try simp only [Act.put, List.setIfInBounds_toArray, List.set_cons_zero, List.set_cons_succ]))); (refine' head_val ?dw44 ?de44 ?dr44 ?dh44; (case' dw44 => rfl); (case' de44 => (first | exact fun _ _ _ => trivial | (intro t ht w; cases ht; simp [upE]))); (case' dr44 => (intro w' hw' _; go_simp; with_reducible rfl)); (case' dh44 => (try simp only [Act.put, List.setIfInBounds_toArray, List.set_cons_zero, List.set_cons_succ])))
      (refine' head_loadAt (x := _) rfl ?_ rfl rfl (HD.out) (S2.out) ?_; (first | exact fun _ _ _ => trivial | (intro t ht w; cases ht; simp [upE])); try simp only [Act.put, List.setIfInBounds_toArray, List.set_cons_zero, List.set_cons_succ])
      (refine' head_val ?dw45 ?de45 ?dr45 ?dh45; (case' dw45 => rfl); (case' de45 => (first | exact fun _ _ _ => trivial | (intro t ht w; cases ht; simp [upE]))); (case' dr45 => (intro w' hw' _; go_simp; with_reducible rfl)); (case' dh45 => (try simp only [Act.put, List.setIfInBounds_toArray, List.set_cons_zero, List.set_cons_succ]))); (refine' head_val ?dw46 ?de46 ?dr46 ?dh46; (case' dw46 => rfl); (case' de46 => (first | exact fun _ _ _ => trivial | (intro t ht w; cases ht; simp [upE]))); (case' dr46 => (intro w' hw' _; go_simp; with_reducible rfl)); (case' dh46 => (try simp only [Act.put, List.setIfInBounds_toArray, List.set_cons_zero, List.set_cons_succ]))); (refine' head_val ?dw47 ?de47 ?dr47 ?dh47; (case' dw47 => rfl); (case' de47 => (first | exact fun _ _ _ => trivial | (intro t ht w; cases ht; simp [upE]))); (case' dr47 => (intro w' hw' _; go_simp; with_reducible rfl)); (case' dh47 => (try simp only [Act.put, List.setIfInBounds_toArray, List.set_cons_zero, List.set_cons_succ])))
      (refine' head_loadAt (x := _) rfl ?_ rfl rfl (HC.out) (S1.out) ?_; (first | exact fun _ _ _ => trivial | (intro t ht w; cases ht; simp [upE])); try simp only [Act.put, List.setIfInBounds_toArray, List.set_cons_zero, List.set_cons_succ])
      (refine' head_call ?cw48 ?ce48 ?cr48 ?cc48 ?ch48; (case' cw48 => rfl); (case' ce48 => (first | exact fun _ _ _ => trivial | (intro t ht w; cases ht; simp [upE]))); (case' cr48 => (intro w'; go_simp; first | exact ⟨rfl, rfl⟩ | with_reducible rfl)); (case' cc48 => (intro w' hw' _; exact HLS.out w')); (case' ch48 => (try simp only [Act.put, List.setIfInBounds_toArray, List.set_cons_zero, List.set_cons_succ])))
      (refine' head_val ?dw49 ?de49 ?dr49 ?dh49; (case' dw49 => rfl); (case' de49 => (first | exact fun _ _ _ => trivial | (intro t ht w; cases ht; simp [upE]))); (case' dr49 => (intro w' hw' _; go_simp; with_reducible rfl)); (case' dh49 => (try simp only [Act.put, List.setIfInBounds_toArray, List.set_cons_zero, List.set_cons_succ])))
      refine head_nil ?_
      intro w1 hb _
      refine wpList_nil ?_
      replace HB := hid (Grow.trans HB.out hb)
      clear hb wp HC HD HLS
      cases lb with
      | true =>
        have HK2 := hid (HKT.out rfl)
        clear HKT HKF
        go_wp2_with fail
        go_roundg (n + 1 - (k + 1))
        case rel => exact ⟨k + 1, by omega, .inl (by omega), by omega, by go_num, HK2, HB⟩
        case measure => omega
      | false =>
        have HF := hid (HKF.out rfl)
        clear HKT HKF
        go_wp2_with fail
        go_ret
        exact ⟨ret_bool HF.out.symm, HB.out⟩
    · have HF := hid (risesB_yes xs (fun j h1 h2 => HK.out j h1 (by have := HN.out; omega)))
      have t1 : decide ((k : Int) < (n : Int)) = false := by simp; omega
      go_wp2_with fail
      go_ret
      exact ⟨ret_bool HF.out.symm, HB.out⟩
theorem refRises4 (A : Option Addr) (n c : Nat) (xs : List (List UInt8)) (w : World) (hx : IdRow w A xs) (hn : xs.length = n) (h32 : ∀ s ∈ xs, s.length = 32) (hmax : n ≤ 1000000) :
    Calls Try.prog 45 #[.slice A n c] w fun e w' => e = .returned (.bool (risesB xs)) ∧ Below w.heap.size w w' := by
  have HX := hid hx
  have HN := hid hn
  have H32 := hid h32
  have nb : (n : Int) ≤ 1000000 := by omega
  clear hx hn h32
  go_enter Try.func45, Try.ntmps45
  have HB := hid (grow_refl w)
  go_wp2_with fail
  go_loopg [3] n (fun z i wr => ∃ k : Nat, 1 ≤ k ∧ (k ≤ n ∨ k = 1) ∧ z = n + 1 - k ∧ i = .int .i64 (k : Int) ∧ Hid (∀ j, 1 ≤ j → j < k → lexLess (xs.getD (j - 1) []) (xs.getD j []) = true) ∧ Hid (Grow w wr))
  case atStart => exact ⟨1, by omega, .inr rfl, by omega, rfl, hid (fun j h1 h2 => by omega), HB⟩
  case round =>
    clear HB
    obtain ⟨k, hk1, hk, hz, rfl, HK, HB⟩ := hrel
    by_cases hlt : k < n
    · obtain ⟨p, hp⟩ : ∃ p, p = k - 1 := ⟨_, rfl⟩
      have hkp : (k : Int) - 1 = (p : Int) := by omega
      have k0 : (0 : Int) ≤ (k : Int) := by omega
      have k1 : (k : Int) < (n : Int) := by omega
      have p0 : (0 : Int) ≤ (p : Int) := by omega
      have p1 : (p : Int) < (n : Int) := by omega
      have wp := wrap_nat p (by omega)
      have HR := hid (HX.out.grow HB.out)
      obtain ⟨ad, rfl, hc⟩ := HR.out.at_ k (by rw [HN.out]; exact hlt)
      obtain ⟨_, e1, hd⟩ := HR.out.at_ p (by rw [HN.out]; omega)
      cases e1
      have HC := hid hc
      have HD := hid hd
      have S1 := hid (getD_mem_len H32.out (show k < xs.length by rw [HN.out]; exact hlt))
      have S2 := hid (getD_mem_len H32.out (show p < xs.length by rw [HN.out]; omega))
      have HKF := hid (fun h => risesB_no xs k hk1 (by rw [HN.out]; exact hlt) (by rw [← hp]; exact h))
      have HKT := hid (fun (h : lexLess (xs.getD p []) (xs.getD k []) = true) => show ∀ j, 1 ≤ j → j < k + 1 → lexLess (xs.getD (j - 1) []) (xs.getD j []) = true from fun j h1 h2 => by
        by_cases hjk : j = k
        · subst hjk; rw [← hp]; exact h
        · exact HK.out j h1 (by omega))
      clear hc hd HR hp HK
      generalize xs.getD k [] = s1 at *
      generalize xs.getD p [] = s2 at *
      have HLS := hid (fun w => refLess s2 s1 S2.out S1.out w)
      generalize lexLess s2 s1 = lb at *
      go_wp2_with fail
      (refine' wp_region_head 11 0 [_, _, _, _, _, _, _, _, _, _, _] rfl (by kernel_rfl) (by kernel_rfl) ?hreg50; case' hreg50 => simp only [List.take_succ_cons, List.take_zero, List.zip_cons_cons, List.zip_nil_right, List.drop_succ_cons, List.drop_zero, List.drop_nil])
      (refine' head_val ?dw51 ?de51 ?dr51 ?dh51; (case' dw51 => rfl); (case' de51 => (first | exact fun _ _ _ => trivial | (intro t ht w; cases ht; simp [upE]))); (case' dr51 => (intro w' hw' _; go_simp; with_reducible rfl)); (case' dh51 => (try simp only [Act.put, List.setIfInBounds_toArray, List.set_cons_zero, List.set_cons_succ]))); (refine' head_val ?dw52 ?de52 ?dr52 ?dh52; (case' dw52 => rfl); (case' de52 => (first | exact fun _ _ _ => trivial | (intro t ht w; cases ht; simp [upE]))); (case' dr52 => (intro w' hw' _; go_simp; with_reducible rfl)); (case' dh52 => (try simp only [Act.put, List.setIfInBounds_toArray, List.set_cons_zero, List.set_cons_succ]))); (refine' head_val ?dw53 ?de53 ?dr53 ?dh53; (case' dw53 => rfl); (case' de53 => (first | exact fun _ _ _ => trivial | (intro t ht w; cases ht; simp [upE]))); (case' dr53 => (intro w' hw' _; go_simp; with_reducible rfl)); (case' dh53 => (try simp only [Act.put, List.setIfInBounds_toArray, List.set_cons_zero, List.set_cons_succ]))); (refine' head_val ?dw54 ?de54 ?dr54 ?dh54; (case' dw54 => rfl); (case' de54 => (first | exact fun _ _ _ => trivial | (intro t ht w; cases ht; simp [upE]))); (case' dr54 => (intro w' hw' _; go_simp; with_reducible rfl)); (case' dh54 => (try simp only [Act.put, List.setIfInBounds_toArray, List.set_cons_zero, List.set_cons_succ])))
      (refine' head_loadAt (x := _) rfl ?_ rfl rfl (HD.out) (S2.out) ?_; (first | exact fun _ _ _ => trivial | (intro t ht w; cases ht; simp [upE])); try simp only [Act.put, List.setIfInBounds_toArray, List.set_cons_zero, List.set_cons_succ])
      (refine' head_val ?dw55 ?de55 ?dr55 ?dh55; (case' dw55 => rfl); (case' de55 => (first | exact fun _ _ _ => trivial | (intro t ht w; cases ht; simp [upE]))); (case' dr55 => (intro w' hw' _; go_simp; with_reducible rfl)); (case' dh55 => (try simp only [Act.put, List.setIfInBounds_toArray, List.set_cons_zero, List.set_cons_succ]))); (refine' head_val ?dw56 ?de56 ?dr56 ?dh56; (case' dw56 => rfl); (case' de56 => (first | exact fun _ _ _ => trivial | (intro t ht w; cases ht; simp [upE]))); (case' dr56 => (intro w' hw' _; go_simp; with_reducible rfl)); (case' dh56 => (try simp only [Act.put, List.setIfInBounds_toArray, List.set_cons_zero, List.set_cons_succ]))); (refine' head_val ?dw57 ?de57 ?dr57 ?dh57; (case' dw57 => rfl); (case' de57 => (first | exact fun _ _ _ => trivial | (intro t ht w; cases ht; simp [upE]))); (case' dr57 => (intro w' hw' _; go_simp; with_reducible rfl)); (case' dh57 => (try simp only [Act.put, List.setIfInBounds_toArray, List.set_cons_zero, List.set_cons_succ])))
      (refine' head_loadAt (x := _) rfl ?_ rfl rfl (HC.out) (S1.out) ?_; (first | exact fun _ _ _ => trivial | (intro t ht w; cases ht; simp [upE])); try simp only [Act.put, List.setIfInBounds_toArray, List.set_cons_zero, List.set_cons_succ])
      (refine' head_call ?cw58 ?ce58 ?cr58 ?cc58 ?ch58; (case' cw58 => rfl); (case' ce58 => (first | exact fun _ _ _ => trivial | (intro t ht w; cases ht; simp [upE]))); (case' cr58 => (intro w'; go_simp; first | exact ⟨rfl, rfl⟩ | with_reducible rfl)); (case' cc58 => (intro w' hw' _; exact HLS.out w')); (case' ch58 => (try simp only [Act.put, List.setIfInBounds_toArray, List.set_cons_zero, List.set_cons_succ])))
      (refine' head_val ?dw59 ?de59 ?dr59 ?dh59; (case' dw59 => rfl); (case' de59 => (first | exact fun _ _ _ => trivial | (intro t ht w; cases ht; simp [upE]))); (case' dr59 => (intro w' hw' _; go_simp; with_reducible rfl)); (case' dh59 => (try simp only [Act.put, List.setIfInBounds_toArray, List.set_cons_zero, List.set_cons_succ])))
      refine head_nil ?_
      intro w1 hb _
      refine wpList_nil ?_
      replace HB := hid (Grow.trans HB.out hb)
      clear hb wp HC HD HLS
      cases lb with
      | true =>
        have HK2 := hid (HKT.out rfl)
        clear HKT HKF
        go_wp2_with fail
        go_roundg (n + 1 - (k + 1))
        case rel => exact ⟨k + 1, by omega, .inl (by omega), by omega, by go_num, HK2, HB⟩
        case measure => omega
      | false =>
        have HF := hid (HKF.out rfl)
        clear HKT HKF
        go_wp2_with fail
        go_ret
        exact ⟨ret_bool HF.out.symm, HB.out⟩
    · have HF := hid (risesB_yes xs (fun j h1 h2 => HK.out j h1 (by have := HN.out; omega)))
      have t1 : decide ((k : Int) < (n : Int)) = false := by simp; omega
      go_wp2_with fail
      go_ret
      exact ⟨ret_bool HF.out.symm, HB.out⟩
theorem idHas (A : Option Addr) (n c : Nat) (xs : List (List UInt8)) (a : List UInt8) (w : World) (hx : IdRow w A xs) (hn : xs.length = n) (h32 : ∀ s ∈ xs, s.length = 32) (ha : a.length = 32) (hmax : n ≤ 1000000) :
    Calls Try.prog 62 #[.slice A n c, idV a] w fun e w' => e = .returned (.bool (bsHas xs a)) ∧ Below w.heap.size w w' := by
  have HA := hid ha
  have HSE := hid (fun w h => idSearch A n c xs a w h hn h32 ha hmax)
  have HX := hid hx
  clear hx hn h32 ha
  go_enter Try.func62, Try.ntmps62
  have HB := hid (grow_refl w)
  apply wp_seq_k; intro _ _; apply wp_region_lit
  refine op_box (l := a) rfl rfl rfl ?_
  intro gb w1 hgl hgu hb hr
  have BXL := hid (Nat.le_trans HB.out.size hgl)
  replace HB := hid (Grow.trans HB.out hb)
  have BX := hid hr; have BXU := hid hgu
  clear hr hgl hgu hb
  try simp only [Act.put, List.setIfInBounds_toArray, List.set_cons_zero, List.set_cons_succ]
  go_wp2_with (first | (refine op_loadId rfl rfl rfl BX.out (HA.out) ?_) |  fail)
  refine (HSE.out _ (HX.out.grow HB.out)).mono ?_
  rintro e w2 ⟨rfl, hb⟩
  replace HB := hid (Grow.trans HB.out hb)
  replace BX := hid (grow_block BX.out hb)
  clear hb
  go_wp2_with (first | (refine op_loadId rfl rfl rfl BX.out (HA.out) ?_) |  fail)
  go_ret
  exact ⟨rfl, HB.out⟩
theorem idPlace (A : Option Addr) (n c : Nat) (xs : List (List UInt8)) (a : List UInt8) (w : World) (hx : IdRow w A xs) (hn : xs.length = n) (h32 : ∀ s ∈ xs, s.length = 32) (ha : a.length = 32) (hmax : n ≤ 1000000) :
    Calls Try.prog 63 #[.slice A n c, idV a] w fun e w' => e = .returned (.int .i64 (bsN xs a : Int)) ∧ Below w.heap.size w w' := by
  have HA := hid ha
  have HSE := hid (fun w h => idSearch A n c xs a w h hn h32 ha hmax)
  have HX := hid hx
  clear hx hn h32 ha
  go_enter Try.func63, Try.ntmps63
  have HB := hid (grow_refl w)
  apply wp_seq_k; intro _ _; apply wp_region_lit
  refine op_box (l := a) rfl rfl rfl ?_
  intro gb w1 hgl hgu hb hr
  have BXL := hid (Nat.le_trans HB.out.size hgl)
  replace HB := hid (Grow.trans HB.out hb)
  have BX := hid hr; have BXU := hid hgu
  clear hr hgl hgu hb
  try simp only [Act.put, List.setIfInBounds_toArray, List.set_cons_zero, List.set_cons_succ]
  go_wp2_with (first | (refine op_loadId rfl rfl rfl BX.out (HA.out) ?_) |  fail)
  refine (HSE.out _ (HX.out.grow HB.out)).mono ?_
  rintro e w2 ⟨rfl, hb⟩
  replace HB := hid (Grow.trans HB.out hb)
  replace BX := hid (grow_block BX.out hb)
  clear hb
  go_wp2_with (first | (refine op_loadId rfl rfl rfl BX.out (HA.out) ?_) |  fail)
  go_ret
  exact ⟨rfl, HB.out⟩
end Go.Proofs.Ytffgifegaagndaa
