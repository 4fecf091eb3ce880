/- slices.Equal, id.Same; Union, Minus, Both: contracts. -/
import Derived.Test.YtkibibgbmkejjaaQSetM
import Derived.Test.YtkibibgbmkejjaaQSetR
import Derived.Test.YtkibibgbmkejjaaQSame
set_option linter.unusedSimpArgs false
set_option linter.unusedVariables false
namespace Go.Proofs.Ytkibibgbmkejjaa
open Go.RowKit
open Go.Qk hiding rotr b4
set_option maxHeartbeats 1000000
set_option maxRecDepth 100000
theorem slicesEqual (A B : Option Addr) (n m c d : Nat) (xs ys : List (List UInt8)) (w : World) (hx : IdRow w A xs) (hy : IdRow w B ys) (hn : xs.length = n) (hm : ys.length = m) (h1 : ∀ s ∈ xs, s.length = 32) (h2 : ∀ s ∈ ys, s.length = 32) :
    Calls Try.prog 106 #[.slice A n c, .slice B m d] w fun e w' => e = .returned (.bool (xs == ys)) ∧ Below w.heap.size w w' := by
  subst hn hm
  have HX := hid hx
  have HY := hid hy
  have H1 := hid h1
  have H2 := hid h2
  have hxl := hx.1
  clear hx hy h1 h2
  by_cases hne : xs.length = ys.length
  · have hyl : ys.length ≤ 9223372036854775807 := by omega
    have t1 : ((xs.length : Int) != (ys.length : Int)) = false := by simp; omega
    have HNE := hid hne
    clear hne
    go_enter Try.func106, Try.ntmps106
    have HB := hid (grow_refl w)
    go_wp2_with fail
    clear t1
    go_loopg [13] (xs.length + 1) (fun q i wr => ∃ k : Nat, k ≤ xs.length ∧ q = xs.length + 1 - k ∧ i = .int .i64 k ∧ Hid (xs.take k = ys.take k) ∧ Hid (Grow w wr))
    case atStart => exact ⟨0, by omega, rfl, rfl, hid rfl, HB⟩
    case round =>
      clear HB
      obtain ⟨k, hk, hq, rfl, HT, HB⟩ := hrel
      by_cases hlt : k < xs.length
      · have k0 : (0 : Int) ≤ (k : Int) := by omega
        have k1 : (k : Int) < (xs.length : Int) := by omega
        have k2 : (k : Int) < (ys.length : Int) := by have := HNE.out; omega
        obtain ⟨ad, rfl, hc⟩ := (HX.out.grow HB.out).at_ k hlt
        obtain ⟨bd, rfl, hd⟩ := (HY.out.grow HB.out).at_ k (by have := HNE.out; omega)
        have HC := hid hc
        have HD := hid hd
        have HS1 := hid (getD_mem_len H1.out hlt)
        have HS2 := hid (getD_mem_len H2.out (show k < ys.length by have := HNE.out; omega))
        have hq1 := fun w => id_neq (xs.getD k []) (ys.getD k []) HS1.out HS2.out w
        have hq2 := id_guard .neq (xs.getD k []) (ys.getD k [])
        have HE := hid (show xs.getD k [] = ys.getD k [] → xs.take (k + 1) = ys.take (k + 1) from fun h => by
          have hlt2 : k < ys.length := by have := HNE.out; omega
          rw [List.take_succ_eq_append_getElem hlt, List.take_succ_eq_append_getElem hlt2, HT.out]
          have e1 : xs.getD k [] = xs[k] := by simp [hlt]
          have e2 : ys.getD k [] = ys[k] := by simp [hlt2]
          rw [← e1, ← e2, h])
        have HF := hid (show xs.getD k [] ≠ ys.getD k [] → (xs == ys) = false from fun h => by
          rw [beq_eq_false_iff_ne]
          rintro rfl
          exact h rfl)
        clear hc hd
        generalize xs.getD k [] = s1 at *
        generalize ys.getD k [] = s2 at *
        go_wp2_with fail
        (refine' wp_region_head 9 0 [_, _, _, _, _, _, _, _, _] rfl (by kernel_rfl) (by kernel_rfl) ?hreg1; case' hreg1 => simp only [List.take_succ_cons, List.take_zero, List.zip_cons_cons, List.zip_nil_right, List.drop_succ_cons, List.drop_zero, List.drop_nil])
        (refine' head_val ?dw2 ?de2 ?dr2 ?dh2; (case' dw2 => rfl); (case' de2 => (first | exact fun _ _ _ => trivial | (intro t ht w; cases ht; simp [upE]))); (case' dr2 => (intro w' hw' _; go_simp; with_reducible rfl)); (case' dh2 => (try simp only [Act.put, List.setIfInBounds_toArray, List.set_cons_zero, List.set_cons_succ]))); (refine' head_val ?dw3 ?de3 ?dr3 ?dh3; (case' dw3 => rfl); (case' de3 => (first | exact fun _ _ _ => trivial | (intro t ht w; cases ht; simp [upE]))); (case' dr3 => (intro w' hw' _; go_simp; with_reducible rfl)); (case' dh3 => (try simp only [Act.put, List.setIfInBounds_toArray, List.set_cons_zero, List.set_cons_succ]))); (refine' head_val ?dw4 ?de4 ?dr4 ?dh4; (case' dw4 => rfl); (case' de4 => (first | exact fun _ _ _ => trivial | (intro t ht w; cases ht; simp [upE]))); (case' dr4 => (intro w' hw' _; go_simp; with_reducible rfl)); (case' dh4 => (try simp only [Act.put, List.setIfInBounds_toArray, List.set_cons_zero, List.set_cons_succ])))
        (refine' head_loadAt (x := _) rfl ?_ rfl rfl (HC.out) (HS1.out) ?_; (first | exact fun _ _ _ => trivial | (intro t ht w; cases ht; simp [upE])); try simp only [Act.put, List.setIfInBounds_toArray, List.set_cons_zero, List.set_cons_succ])
        (refine' head_val ?dw5 ?de5 ?dr5 ?dh5; (case' dw5 => rfl); (case' de5 => (first | exact fun _ _ _ => trivial | (intro t ht w; cases ht; simp [upE]))); (case' dr5 => (intro w' hw' _; go_simp; with_reducible rfl)); (case' dh5 => (try simp only [Act.put, List.setIfInBounds_toArray, List.set_cons_zero, List.set_cons_succ]))); (refine' head_val ?dw6 ?de6 ?dr6 ?dh6; (case' dw6 => rfl); (case' de6 => (first | exact fun _ _ _ => trivial | (intro t ht w; cases ht; simp [upE]))); (case' dr6 => (intro w' hw' _; go_simp; with_reducible rfl)); (case' dh6 => (try simp only [Act.put, List.setIfInBounds_toArray, List.set_cons_zero, List.set_cons_succ]))); (refine' head_val ?dw7 ?de7 ?dr7 ?dh7; (case' dw7 => rfl); (case' de7 => (first | exact fun _ _ _ => trivial | (intro t ht w; cases ht; simp [upE]))); (case' dr7 => (intro w' hw' _; go_simp; with_reducible rfl)); (case' dh7 => (try simp only [Act.put, List.setIfInBounds_toArray, List.set_cons_zero, List.set_cons_succ])))
        (refine' head_loadAt (x := _) rfl ?_ rfl rfl (HD.out) (HS2.out) ?_; (first | exact fun _ _ _ => trivial | (intro t ht w; cases ht; simp [upE])); try simp only [Act.put, List.setIfInBounds_toArray, List.set_cons_zero, List.set_cons_succ])
        (refine' head_val ?dw8 ?de8 ?dr8 ?dh8; (case' dw8 => rfl); (case' de8 => (first | exact fun _ _ _ => trivial | (intro t ht w; cases ht; simp [upE]))); (case' dr8 => (intro w' hw' _; go_simp; with_reducible rfl)); (case' dh8 => (try simp only [Act.put, List.setIfInBounds_toArray, List.set_cons_zero, List.set_cons_succ])))
        refine head_nil ?_
        intro w1 hb _
        refine wpList_nil ?_
        have HB1 := hid (Grow.trans HB.out hb)
        clear hb hq1 hq2
        generalize hz : (!(s1 == s2)) = z
        cases z with
        | false =>
          have HE2 := hid (HE.out (by simpa using hz))
          clear hz HE HF
          go_wp2
          go_roundg (xs.length + 1 - (k + 1))
          case rel => exact ⟨k + 1, by omega, rfl, by go_num, HE2, HB1⟩
          case measure => omega
        | true =>
          have HF2 := hid (HF.out (by simpa using hz))
          clear hz HE HF
          go_wp2
          go_ret
          exact ⟨ret_bool HF2.out.symm, HB1.out⟩
      · obtain rfl : k = xs.length := by omega
        have HF := hid (show (xs == ys) = true by
          have := HT.out
          rw [List.take_length, HNE.out, List.take_length] at this
          rw [this, beq_self_eq_true])
        go_wp2
        go_ret
        exact ⟨ret_bool HF.out.symm, HB.out⟩
  · have t1 : ((xs.length : Int) != (ys.length : Int)) = true := by simp; omega
    have HF := hid (show (xs == ys) = false by rw [beq_eq_false_iff_ne]; rintro rfl; exact hne rfl)
    go_enter Try.func106, Try.ntmps106
    have HB := hid (grow_refl w)
    go_wp2
    go_ret
    exact ⟨ret_bool HF.out.symm, HB.out⟩
theorem idSame (A B : Option Addr) (n m c d : Nat) (xs ys : List (List UInt8)) (w : World) (hx : IdRow w A xs) (hy : IdRow w B ys) (hn : xs.length = n) (hm : ys.length = m) (h1 : ∀ s ∈ xs, s.length = 32) (h2 : ∀ s ∈ ys, s.length = 32) :
    Calls Try.prog 36 #[.slice A n c, .slice B m d] w fun e w' => e = .returned (.bool (xs == ys)) ∧ Below w.heap.size w w' := by
  go_enter Try.func36, Try.ntmps36
  have HB := hid (grow_refl w)
  go_wp2_with fail
  refine (slicesEqual A B n m c d xs ys _ (hx.grow HB.out) (hy.grow HB.out) hn hm h1 h2).mono ?_
  rintro e w1 ⟨rfl, hb⟩
  replace HB := hid (Grow.trans HB.out hb)
  clear hb
  go_wp2_with fail
  go_ret
  exact ⟨rfl, HB.out⟩
def unionL (xs ys : List (List UInt8)) : List (List UInt8) := mergeN (fun _ _ => true) (xs.length + ys.length) xs ys
def minusL (xs ys : List (List UInt8)) : List (List UInt8) := mergeN (fun f s => f && !s) (xs.length + ys.length) xs ys
def bothL (xs ys : List (List UInt8)) : List (List UInt8) := mergeN (fun f s => f && s) (xs.length + ys.length) xs ys
theorem idUnion (A B : Option Addr) (n1 n2 ca cb : Nat) (xs ys : List IdL) (hn1 : xs.length = n1) (hn2 : ys.length = n2) (w : World) (hx : IdRow w A xs) (hy : IdRow w B ys) (h32 : ∀ s ∈ xs, s.length = 32) (g32 : ∀ s ∈ ys, s.length = 32) (hca : xs.length ≤ ca) (hcb : ys.length ≤ cb) (hmax : xs.length + ys.length ≤ 1000000) :
    Calls Try.prog 32 #[.slice A n1 ca, .slice B n2 cb] w (RetRow w.heap.size w (unionL xs ys)) := by
  go_enter Try.func32, Try.ntmps32
  have HB := hid (grow_refl w)
  go_wp2_with fail
  refine (idMerge (fun _ _ => true) _ ent_union unionCnt A B n1 n2 ca cb xs ys hn1 hn2 _ hx hy h32 g32 hca hcb hmax).mono ?_
  rintro e w1 ⟨v, rfl, ho, hb⟩
  have HO := hid ho
  have HB1 := hid hb
  clear ho hb
  go_wp2_with fail
  go_ret
  exact ⟨_, rfl, HO.out, HB1.out⟩
theorem idMinus (A B : Option Addr) (n1 n2 ca cb : Nat) (xs ys : List IdL) (hn1 : xs.length = n1) (hn2 : ys.length = n2) (w : World) (hx : IdRow w A xs) (hy : IdRow w B ys) (h32 : ∀ s ∈ xs, s.length = 32) (g32 : ∀ s ∈ ys, s.length = 32) (hca : xs.length ≤ ca) (hcb : ys.length ≤ cb) (hmax : xs.length + ys.length ≤ 1000000) :
    Calls Try.prog 33 #[.slice A n1 ca, .slice B n2 cb] w (RetRow w.heap.size w (minusL xs ys)) := by
  go_enter Try.func33, Try.ntmps33
  have HB := hid (grow_refl w)
  go_wp2_with fail
  refine (idMerge (fun f s => f && !s) _ ent_minus minusCnt A B n1 n2 ca cb xs ys hn1 hn2 _ hx hy h32 g32 hca hcb hmax).mono ?_
  rintro e w1 ⟨v, rfl, ho, hb⟩
  have HO := hid ho
  have HB1 := hid hb
  clear ho hb
  go_wp2_with fail
  go_ret
  exact ⟨_, rfl, HO.out, HB1.out⟩
theorem idBoth (A B : Option Addr) (n1 n2 ca cb : Nat) (xs ys : List IdL) (hn1 : xs.length = n1) (hn2 : ys.length = n2) (w : World) (hx : IdRow w A xs) (hy : IdRow w B ys) (h32 : ∀ s ∈ xs, s.length = 32) (g32 : ∀ s ∈ ys, s.length = 32) (hca : xs.length ≤ ca) (hcb : ys.length ≤ cb) (hmax : xs.length + ys.length ≤ 1000000) :
    Calls Try.prog 35 #[.slice A n1 ca, .slice B n2 cb] w (RetRow w.heap.size w (bothL xs ys)) := by
  go_enter Try.func35, Try.ntmps35
  have HB := hid (grow_refl w)
  go_wp2_with fail
  refine (idMerge (fun f s => f && s) _ ent_both bothCnt A B n1 n2 ca cb xs ys hn1 hn2 _ hx hy h32 g32 hca hcb hmax).mono ?_
  rintro e w1 ⟨v, rfl, ho, hb⟩
  have HO := hid ho
  have HB1 := hid hb
  clear ho hb
  go_wp2_with fail
  go_ret
  exact ⟨_, rfl, HO.out, HB1.out⟩
end Go.Proofs.Ytkibibgbmkejjaa
