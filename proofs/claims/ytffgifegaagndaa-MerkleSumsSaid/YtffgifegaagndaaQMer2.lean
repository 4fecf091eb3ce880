/- merkle: the document's Root; sums of sets. -/
import Derived.Test.YtffgifegaagndaaQMer1
set_option linter.unusedSimpArgs false
set_option linter.unusedVariables false
namespace Go.Proofs.Ytffgifegaagndaa
open Go.RowKit
open Go.Qk hiding rotr b4
set_option maxHeartbeats 1000000
set_option maxRecDepth 100000
theorem refRoot : ∀ (f : Nat) (A : Option Addr) (n c : Nat) (xs : List (List UInt8)) (w : World), xs.length ≤ f → IdRow w A xs → xs.length = n → n ≤ c → (∀ s ∈ xs, s.length = 32) → n ≤ 1000000 →
    Calls Try.prog 47 #[.slice A n c] w fun e w' => e = .returned (idV (rootL xs)) ∧ Below w.heap.size w w'
  | f, A, n, c, xs, w, hf, hx, hn, hc, h32, hmax => by
    have HX := hid hx
    by_cases h0 : n = 0
    · have HE := hid (rootL_none xs (by omega))
      have t1 : ((n : Int) == 0) = true := by simp; omega
      have HTL := hid noneOf_length
      have HS := hid (show (textOf noneName []).length ≤ 140737488355328 by decide +kernel)
      clear hx hn h32 hc hf h0
      go_enter Try.func47, Try.ntmps47
      have HB := hid (grow_refl w)
      apply wp_seq_k; intro _ _; apply wp_region_lit
      refine op_alloc rfl rfl ?_
      intro gr w1 hgl hgu hb hr
      have HRL := hid (Nat.le_trans HB.out.size hgl)
      replace HB := hid (Grow.trans HB.out hb)
      have HR := hid hr; have HRU := hid hgu
      clear hr hgl hgu hb
      try simp only [Act.put, List.setIfInBounds_toArray, List.set_cons_zero, List.set_cons_succ]
      refine wpList_nil ?_
      go_wp2_with fail
      refine (refOf noneName none 0 0 [] _ (strRow_none _) rfl (by decide) HS.out).mono ?_
      rintro e w2 ⟨rfl, hb⟩
      replace HB := hid (Grow.trans HB.out hb)
      replace HR := hid (grow_block HR.out hb)
      clear hb
      go_wp2_with (first |  (refine op_buildId rfl rfl ?_) | (refine op_storeId (l := noneOf) rfl rfl rfl rfl rfl HR.out (by rfl) (HTL.out) ?_))
      intro wz hz _ hbz
      have HZ := hid hz; have HBZ := hid (hbz _ _ HB.out HRL.out)
      clear hz hbz
      go_wp2_with fail
      refine bodyPost_ret (ret_id rfl rfl HZ.out (HTL.out)) rfl ⟨?_, HBZ.out⟩
      rw [HE.out]
      try rfl
    · by_cases h1 : n = 1
      · have HE := hid (rootL_one xs (by omega))
        have t1 : ((n : Int) == 0) = false := by simp; omega
        have t2 : ((n : Int) == 1) = true := by simp; omega
        have n1 : (0 : Int) < (n : Int) := by omega
        obtain ⟨ad, rfl, hd⟩ := hx.at_ 0 (by omega)
        rw [show ad.add (0 * 32) = ad by unfold Addr.add; split <;> simp_all] at hd
        have HD := hid hd
        have S1 := hid (getD_mem_len h32 (show 0 < xs.length by omega))
        have HTL := hid (itemOf_length (xs.getD 0 []))
        have HS := hid (textOf_one itemName (xs.getD 0 []) (by decide) (by rw [S1.out]; omega))
        clear hx hn h32 hc hf h0 h1 hd
        generalize xs.getD 0 [] = s at *
        go_enter Try.func47, Try.ntmps47
        have HB := hid (grow_refl w)
        apply wp_seq_k; intro _ _; apply wp_region_lit
        refine op_alloc rfl rfl ?_
        intro gr w3 hgl hgu hb hr
        have HRL := hid (Nat.le_trans HB.out.size hgl)
        replace HB := hid (Grow.trans HB.out hb)
        have HR := hid hr; have HRU := hid hgu
        clear hr hgl hgu hb
        try simp only [Act.put, List.setIfInBounds_toArray, List.set_cons_zero, List.set_cons_succ]
        refine wpList_nil ?_
        have HDB := hid (fun j v hv => grow_cell (HD.out j v hv) HB.out)
        go_wp2_with (first | (refine op_loadAt (l := s) rfl rfl rfl HDB.out S1.out ?_) | fail)
        clear HDB
        refine (ref3Bytes s S1.out _).mono ?_
        rintro e w4 ⟨rfl, hb⟩
        replace HB := hid (Grow.trans HB.out hb)
        replace HR := hid (grow_block HR.out hb)
        clear hb
        go_wp2_with fail
        refine (refOf itemName _ _ _ [bs s] _ (strRow_alloc _ [bs s] _ (by simp)) rfl (by decide) HS.out).mono ?_
        rintro e w5 ⟨rfl, hb⟩
        replace hb := Grow.trans (grow_alloc _ _) hb
        replace HB := hid (Grow.trans HB.out hb)
        replace HR := hid (grow_block HR.out hb)
        clear hb
        go_wp2_with (first |  (refine op_buildId rfl rfl ?_) | (refine op_storeId (l := itemOf s) rfl rfl rfl rfl rfl HR.out (by rfl) (HTL.out) ?_))
        intro wz hz _ hbz
        have HZ := hid hz; have HBZ := hid (hbz _ _ HB.out HRL.out)
        clear hz hbz
        go_wp2_with fail
        refine bodyPost_ret (ret_id rfl rfl HZ.out (HTL.out)) rfl ⟨?_, HBZ.out⟩
        rw [HE.out]
        try rfl
      · have h2 : 2 ≤ xs.length := by omega
        have hk := halfN_lt h2
        rw [hn] at hk
        obtain ⟨k, hkk⟩ : ∃ k, k = halfN n := ⟨_, rfl⟩
        have HE := hid (show rootL xs = joinOf (rootL (xs.take k)) (rootL (xs.drop k)) by rw [hkk, ← hn]; exact rootL_two xs h2)
        rw [← hkk] at hk
        have t1 : ((n : Int) == 0) = false := by simp; omega
        have t2 : ((n : Int) == 1) = false := by simp; omega
        obtain ⟨ad, rfl, _⟩ := hx.at_ 0 (by omega)
        obtain ⟨f2, rfl⟩ : ∃ f2, f = f2 + 1 := ⟨f - 1, by omega⟩
        have HR1 := hid (fun w (h : IdRow w (some ad) xs) => refRoot f2 (some ad) k c (xs.take k) w (by rw [List.length_take]; omega) (idRow_take h k) (by rw [List.length_take]; omega) (by omega) (fun s hs => h32 s (List.mem_of_mem_take hs)) (by omega))
        have HR2 := hid (fun w (h : IdRow w (some ad) xs) => refRoot f2 (some (ad.add (k * 32))) (n - k) (c - k) (xs.drop k) w (by rw [List.length_drop]; omega) (idRow_drop h k) (by rw [List.length_drop]; omega) (by omega) (fun s hs => h32 s (List.mem_of_mem_drop hs)) (by omega))
        have hs1 := run_idsTo (ad := ad) (n := n) (c := c) (k := k) (by omega)
        have hs2 := run_idsFrom (ad := ad) (n := n) (c := c) (k := k) (by omega) hc (by omega)
        have HH := hid (fun w => refHalf n (by omega) w)
        rw [← hkk] at HH
        obtain ⟨n2, hn2⟩ : ∃ m, m = n - k := ⟨_, rfl⟩
        obtain ⟨c2, hc2⟩ : ∃ m, m = c - k := ⟨_, rfl⟩
        obtain ⟨ad2, had2⟩ : ∃ a, a = ad.add (k * 32) := ⟨_, rfl⟩
        rw [← hn2, ← hc2, ← had2] at hs2 HR2
        have L1 := hid (rootL_length (xs.take k))
        have L2 := hid (rootL_length (xs.drop k))
        have HTL := hid (joinOf_length (rootL (xs.take k)) (rootL (xs.drop k)))
        clear hx hn h32 hc hf h0 h1 h2 hk hkk hn2 hc2 had2
        generalize rootL (xs.take k) = r1 at *
        generalize rootL (xs.drop k) = r2 at *
        go_enter Try.func47, Try.ntmps47
        have HB := hid (grow_refl w)
        apply wp_seq_k; intro _ _; apply wp_region_lit
        refine op_alloc rfl rfl ?_
        intro gr w6 hgl hgu hb hr
        have HRL := hid (Nat.le_trans HB.out.size hgl)
        replace HB := hid (Grow.trans HB.out hb)
        have HR := hid hr; have HRU := hid hgu
        clear hr hgl hgu hb
        try simp only [Act.put, List.setIfInBounds_toArray, List.set_cons_zero, List.set_cons_succ]
        refine wpList_nil ?_
        go_wp2_with fail
        refine (HH.out _).mono ?_
        rintro e w7 ⟨rfl, hb⟩
        replace HB := hid (Grow.trans HB.out hb)
        replace HR := hid (grow_block HR.out hb)
        clear hb
        go_wp2_with fail
        (refine' wp_region_head 9 1 [_, _, _, _, _, _, _, _, _] rfl (by kernel_rfl) (by kernel_rfl) ?hreg1; case' hreg1 => simp only [List.take_succ_cons, List.take_zero, List.zip_cons_cons, List.zip_nil_right, List.drop_succ_cons, List.drop_zero, List.drop_nil])
        (refine' head_val ?dw2 ?de2 ?dr2 ?dh2; (case' dw2 => rfl); (case' de2 => (first | exact fun _ _ _ => trivial | (intro t ht w; cases ht; simp [upE]))); (case' dr2 => (intro w' hw' _; go_simp; with_reducible rfl)); (case' dh2 => (try simp only [Act.put, List.setIfInBounds_toArray, List.set_cons_zero, List.set_cons_succ]))); (refine' head_val ?dw3 ?de3 ?dr3 ?dh3; (case' dw3 => rfl); (case' de3 => (first | exact fun _ _ _ => trivial | (intro t ht w; cases ht; simp [upE]))); (case' dr3 => (intro w' hw' _; go_simp; with_reducible rfl)); (case' dh3 => (try simp only [Act.put, List.setIfInBounds_toArray, List.set_cons_zero, List.set_cons_succ]))); (refine' head_val ?dw4 ?de4 ?dr4 ?dh4; (case' dw4 => rfl); (case' de4 => (first | exact fun _ _ _ => trivial | (intro t ht w; cases ht; simp [upE]))); (case' dr4 => (intro w' hw' _; go_simp; with_reducible rfl)); (case' dh4 => (try simp only [Act.put, List.setIfInBounds_toArray, List.set_cons_zero, List.set_cons_succ])))
        (refine' head_call ?cw5 ?ce5 ?cr5 ?cc5 ?ch5; (case' cw5 => rfl); (case' ce5 => (first | exact fun _ _ _ => trivial | (intro t ht w; cases ht; simp [upE]))); (case' cr5 => (intro w'; go_simp; first | exact ⟨rfl, rfl⟩ | with_reducible rfl)); (case' cc5 => (intro w' hw' _; exact HR1.out w' (HX.out.grow (HB.out.trans hw')))); (case' ch5 => (try simp only [Act.put, List.setIfInBounds_toArray, List.set_cons_zero, List.set_cons_succ])))
        (refine' head_val ?dw6 ?de6 ?dr6 ?dh6; (case' dw6 => rfl); (case' de6 => (first | exact fun _ _ _ => trivial | (intro t ht w; cases ht; simp [upE]))); (case' dr6 => (intro w' hw' _; go_simp; with_reducible rfl)); (case' dh6 => (try simp only [Act.put, List.setIfInBounds_toArray, List.set_cons_zero, List.set_cons_succ]))); (refine' head_val ?dw7 ?de7 ?dr7 ?dh7; (case' dw7 => rfl); (case' de7 => (first | exact fun _ _ _ => trivial | (intro t ht w; cases ht; simp [upE]))); (case' dr7 => (intro w' hw' _; go_simp; with_reducible rfl)); (case' dh7 => (try simp only [Act.put, List.setIfInBounds_toArray, List.set_cons_zero, List.set_cons_succ]))); (refine' head_val ?dw8 ?de8 ?dr8 ?dh8; (case' dw8 => rfl); (case' de8 => (first | exact fun _ _ _ => trivial | (intro t ht w; cases ht; simp [upE]))); (case' dr8 => (intro w' hw' _; go_simp; with_reducible rfl)); (case' dh8 => (try simp only [Act.put, List.setIfInBounds_toArray, List.set_cons_zero, List.set_cons_succ])))
        (refine' head_call ?cw9 ?ce9 ?cr9 ?cc9 ?ch9; (case' cw9 => rfl); (case' ce9 => (first | exact fun _ _ _ => trivial | (intro t ht w; cases ht; simp [upE]))); (case' cr9 => (intro w'; go_simp; first | exact ⟨rfl, rfl⟩ | with_reducible rfl)); (case' cc9 => (intro w' hw' _; exact HR2.out w' (HX.out.grow (HB.out.trans hw')))); (case' ch9 => (try simp only [Act.put, List.setIfInBounds_toArray, List.set_cons_zero, List.set_cons_succ])))
        (refine' head_call ?cw10 ?ce10 ?cr10 ?cc10 ?ch10; (case' cw10 => rfl); (case' ce10 => (first | exact fun _ _ _ => trivial | (intro t ht w; cases ht; simp [upE]))); (case' cr10 => (intro w'; go_simp; first | exact ⟨rfl, rfl⟩ | with_reducible rfl)); (case' cc10 => (intro w' hw' _; exact refPair joinName r1 r2 L1.out L2.out (by decide) w')); (case' ch10 => (try simp only [Act.put, List.setIfInBounds_toArray, List.set_cons_zero, List.set_cons_succ])))
        clear hs1 hs2
        refine head_nil ?_
        intro w8 hb _
        replace HB := hid (Grow.trans HB.out hb)
        replace HR := hid (grow_block HR.out hb)
        clear hb
        go_wp2_with (first |  (refine op_buildId rfl rfl ?_) | (refine op_storeId (l := joinOf r1 r2) rfl rfl rfl rfl rfl HR.out (by rfl) (HTL.out) ?_))
        intro wz hz _ hbz
        have HZ := hid hz; have HBZ := hid (hbz _ _ HB.out HRL.out)
        clear hz hbz
        go_wp2_with fail
        refine bodyPost_ret (ret_id rfl rfl HZ.out (HTL.out)) rfl ⟨?_, HBZ.out⟩
        rw [HE.out]
def wholeTx (v : Nat) (root : List UInt8) : List UInt8 := textOf setName [bs (be 8 v), bs root]
theorem wholeTx_small (v : Nat) (root : List UInt8) (h : root.length = 32) : (wholeTx v root).length ≤ 140737488355328 := textOf_two setName _ _ (by decide) (by rw [be_length]; omega) (by omega)
theorem mkWholeText (count : Int) (v : Nat) (hv : max count 0 = (v : Int)) (hle : count ≤ 9223372036854775807) (root : List UInt8) (hr : root.length = 32) (w : World) :
    Calls Try.prog 101 #[.int .i64 count, idV root] w fun e w' => e = .returned (.string (bs (wholeTx v root))) ∧ Below w.heap.size w w' := by
  have HA := hid hr
  have HTX := hid (wholeTx_small v root hr)
  have v1 : (v : Int) ≤ 9223372036854775807 := by omega
  clear hr hle
  go_enter Try.func101, Try.ntmps101
  have HB := hid (grow_refl w)
  apply wp_seq_k; intro _ _; apply wp_region_lit
  refine op_box (l := root) rfl rfl rfl ?_
  intro gx w1 hgl hgu hb hr
  have XL := hid (Nat.le_trans HB.out.size hgl)
  replace HB := hid (Grow.trans HB.out hb)
  have X := hid hr; have XU := hid hgu
  clear hr hgl hgu hb
  try simp only [Act.put, List.setIfInBounds_toArray, List.set_cons_zero, List.set_cons_succ]
  go_wp2_with fail
  clear hv
  refine (number8 v (by omega) _).mono ?_
  rintro e w2 ⟨rfl, hb⟩
  replace HB := hid (Grow.trans HB.out hb)
  replace X := hid (grow_block X.out hb)
  clear hb
  have hcx := run_strId X.out HA.out
  go_wp2_with fail
  refine (tagText setName _ _ _ [bs (be 8 v), bs root] _ (strRow_alloc _ [bs (be 8 v), bs root] _ (by simp)) rfl (by decide) HTX.out).mono ?_
  rintro e w3 ⟨rfl, hb⟩
  replace hb := Grow.trans (grow_alloc _ _) hb
  replace HB := hid (Grow.trans HB.out hb)
  replace X := hid (grow_block X.out hb)
  clear hb
  clear hcx
  go_wp2_with fail
  go_ret
  exact ⟨rfl, HB.out⟩
theorem mkWhole (count : Int) (v : Nat) (hv : max count 0 = (v : Int)) (hle : count ≤ 9223372036854775807) (root : List UInt8) (hr : root.length = 32) (w : World) :
    Calls Try.prog 43 #[.int .i64 count, idV root] w fun e w' => e = .returned (idV (wholeOf v root)) ∧ Below w.heap.size w w' := by
  have HA := hid hr
  have HTX := hid (wholeTx_small v root hr)
  have HTL := hid (wholeOf_length v root)
  have HW := hid (fun w => mkWholeText count v hv hle root hr w)
  have HE := hid (show shaOf (wholeTx v root) = wholeOf v root from rfl)
  clear hr hle hv
  go_enter Try.func43, Try.ntmps43
  have HB := hid (grow_refl w)
  apply wp_seq_k; intro _ _; apply wp_region_lit
  refine op_box (l := root) rfl rfl rfl ?_
  intro gx w1 hgl hgu hb hr
  have XL := hid (Nat.le_trans HB.out.size hgl)
  replace HB := hid (Grow.trans HB.out hb)
  have X := hid hr; have XU := hid hgu
  clear hr hgl hgu hb
  try simp only [Act.put, List.setIfInBounds_toArray, List.set_cons_zero, List.set_cons_succ]
  refine op_alloc rfl rfl ?_
  intro gr w2 hgl hgu hb hr
  have HRL := hid (Nat.le_trans HB.out.size hgl)
  replace HB := hid (Grow.trans HB.out hb)
  replace X := hid (grow_block X.out hb)
  have HR := hid hr; have HRU := hid hgu
  clear hr hgl hgu hb
  try simp only [Act.put, List.setIfInBounds_toArray, List.set_cons_zero, List.set_cons_succ]
  refine wpList_nil ?_
  go_wp2_with (first | (refine op_loadId rfl rfl rfl X.out (HA.out) ?_) |  fail)
  refine (HW.out _).mono ?_
  rintro e w3 ⟨rfl, hb⟩
  replace HB := hid (Grow.trans HB.out hb)
  replace X := hid (grow_block X.out hb)
  replace HR := hid (grow_block HR.out hb)
  clear hb
  go_wp2_with fail
  refine (HE.out ▸ shaSum (wholeTx v root) HTX.out _).mono ?_
  rintro e w4 ⟨rfl, hb⟩
  replace HB := hid (Grow.trans HB.out hb)
  replace X := hid (grow_block X.out hb)
  replace HR := hid (grow_block HR.out hb)
  clear hb
  go_wp2_with (first | (refine op_loadId rfl rfl rfl X.out (HA.out) ?_) |  (refine op_buildId rfl rfl ?_) | (refine op_storeId (l := wholeOf v root) rfl rfl rfl rfl rfl HR.out (by rfl) (HTL.out) ?_))
  intro wz hz _ hbz
  have HZ := hid hz; have HBZ := hid (hbz _ _ HB.out HRL.out)
  clear hz hbz
  go_wp2_with fail
  refine bodyPost_ret (ret_id rfl rfl HZ.out (HTL.out)) rfl ⟨?_, HBZ.out⟩
  rfl
theorem refWhole21 (count : Int) (v : Nat) (hv : max count 0 = (v : Int)) (hle : count ≤ 9223372036854775807) (root : List UInt8) (hr : root.length = 32) (w : World) :
    Calls Try.prog 44 #[.int .i64 count, idV root] w fun e w' => e = .returned (idV (wholeOf v root)) ∧ Below w.heap.size w w' := by
  have HA := hid hr
  have HTX := hid (wholeTx_small v root hr)
  have HTL := hid (wholeOf_length v root)
  by_cases h0 : count < 0
  · obtain rfl : v = 0 := by omega
    have t1 : decide (count < 0) = true := by simpa using h0
    clear hr hle hv h0
    go_enter Try.func44, Try.ntmps44
    have HB := hid (grow_refl w)
    apply wp_seq_k; intro _ _; apply wp_region_lit
    refine op_box (l := root) rfl rfl rfl ?_
    intro gx w1 hgl hgu hb hr
    have XL := hid (Nat.le_trans HB.out.size hgl)
    replace HB := hid (Grow.trans HB.out hb)
    have X := hid hr; have XU := hid hgu
    clear hr hgl hgu hb
    try simp only [Act.put, List.setIfInBounds_toArray, List.set_cons_zero, List.set_cons_succ]
    refine op_alloc rfl rfl ?_
    intro gr w2 hgl hgu hb hr
    have HRL := hid (Nat.le_trans HB.out.size hgl)
    replace HB := hid (Grow.trans HB.out hb)
    replace X := hid (grow_block X.out hb)
    have HR := hid hr; have HRU := hid hgu
    clear hr hgl hgu hb
    try simp only [Act.put, List.setIfInBounds_toArray, List.set_cons_zero, List.set_cons_succ]
    refine wpList_nil ?_
    go_wp2_with (first | (refine op_loadId rfl rfl rfl X.out (HA.out) ?_) |  fail)
    refine (refNumber8 0 (by omega) _).mono ?_
    rintro e w3 ⟨rfl, hb⟩
    replace HB := hid (Grow.trans HB.out hb)
    replace X := hid (grow_block X.out hb)
    replace HR := hid (grow_block HR.out hb)
    clear hb
    go_wp2_with (first | (refine op_loadId rfl rfl rfl X.out (HA.out) ?_) |  fail)
    refine (ref3Bytes root HA.out _).mono ?_
    rintro e w4 ⟨rfl, hb⟩
    replace HB := hid (Grow.trans HB.out hb)
    replace X := hid (grow_block X.out hb)
    replace HR := hid (grow_block HR.out hb)
    clear hb
    go_wp2_with fail
    refine (refOf setName _ _ _ [bs (be 8 0), bs root] _ (strRow_alloc _ [bs (be 8 0), bs root] _ (by simp)) rfl (by decide) HTX.out).mono ?_
    rintro e w5 ⟨rfl, hb⟩
    replace hb := Grow.trans (grow_alloc _ _) hb
    replace HB := hid (Grow.trans HB.out hb)
    replace X := hid (grow_block X.out hb)
    replace HR := hid (grow_block HR.out hb)
    clear hb
    go_wp2_with (first | (refine op_loadId rfl rfl rfl X.out (HA.out) ?_) |  (refine op_buildId rfl rfl ?_) | (refine op_storeId (l := wholeOf 0 root) rfl rfl rfl rfl rfl HR.out (by rfl) (HTL.out) ?_))
    intro wz hz _ hbz
    have HZ := hid hz; have HBZ := hid (hbz _ _ HB.out HRL.out)
    clear hz hbz
    go_wp2_with fail
    refine bodyPost_ret (ret_id rfl rfl HZ.out (HTL.out)) rfl ⟨?_, HBZ.out⟩
    rfl
  · obtain rfl : count = (v : Int) := by omega
    have t1 : decide ((v : Int) < 0) = false := by simp
    have v1 : (v : Int) ≤ 9223372036854775807 := by omega
    clear hr hle hv h0
    go_enter Try.func44, Try.ntmps44
    have HB := hid (grow_refl w)
    apply wp_seq_k; intro _ _; apply wp_region_lit
    refine op_box (l := root) rfl rfl rfl ?_
    intro gx w6 hgl hgu hb hr
    have XL := hid (Nat.le_trans HB.out.size hgl)
    replace HB := hid (Grow.trans HB.out hb)
    have X := hid hr; have XU := hid hgu
    clear hr hgl hgu hb
    try simp only [Act.put, List.setIfInBounds_toArray, List.set_cons_zero, List.set_cons_succ]
    refine op_alloc rfl rfl ?_
    intro gr w7 hgl hgu hb hr
    have HRL := hid (Nat.le_trans HB.out.size hgl)
    replace HB := hid (Grow.trans HB.out hb)
    replace X := hid (grow_block X.out hb)
    have HR := hid hr; have HRU := hid hgu
    clear hr hgl hgu hb
    try simp only [Act.put, List.setIfInBounds_toArray, List.set_cons_zero, List.set_cons_succ]
    refine wpList_nil ?_
    go_wp2_with (first | (refine op_loadId rfl rfl rfl X.out (HA.out) ?_) |  fail)
    refine (refNumber8 v (by omega) _).mono ?_
    rintro e w8 ⟨rfl, hb⟩
    replace HB := hid (Grow.trans HB.out hb)
    replace X := hid (grow_block X.out hb)
    replace HR := hid (grow_block HR.out hb)
    clear hb
    go_wp2_with (first | (refine op_loadId rfl rfl rfl X.out (HA.out) ?_) |  fail)
    refine (ref3Bytes root HA.out _).mono ?_
    rintro e w9 ⟨rfl, hb⟩
    replace HB := hid (Grow.trans HB.out hb)
    replace X := hid (grow_block X.out hb)
    replace HR := hid (grow_block HR.out hb)
    clear hb
    go_wp2_with fail
    refine (refOf setName _ _ _ [bs (be 8 v), bs root] _ (strRow_alloc _ [bs (be 8 v), bs root] _ (by simp)) rfl (by decide) HTX.out).mono ?_
    rintro e w10 ⟨rfl, hb⟩
    replace hb := Grow.trans (grow_alloc _ _) hb
    replace HB := hid (Grow.trans HB.out hb)
    replace X := hid (grow_block X.out hb)
    replace HR := hid (grow_block HR.out hb)
    clear hb
    go_wp2_with (first | (refine op_loadId rfl rfl rfl X.out (HA.out) ?_) |  (refine op_buildId rfl rfl ?_) | (refine op_storeId (l := wholeOf v root) rfl rfl rfl rfl rfl HR.out (by rfl) (HTL.out) ?_))
    intro wz hz _ hbz
    have HZ := hid hz; have HBZ := hid (hbz _ _ HB.out HRL.out)
    clear hz hbz
    go_wp2_with fail
    refine bodyPost_ret (ret_id rfl rfl HZ.out (HTL.out)) rfl ⟨?_, HBZ.out⟩
    rfl
def sumV (xs : List (List UInt8)) : List UInt8 := wholeOf xs.length (rootL xs)
theorem mkSum_no (A : Option Addr) (n c : Nat) (xs : List (List UInt8)) (w : World) (hx : IdRow w A xs) (hn : xs.length = n) (h32 : ∀ s ∈ xs, s.length = 32) (hmax : n ≤ 1000000) (hr : risesB xs = false) :
    Calls Try.prog 42 #[.slice A n c] w fun e w' => e = .returned (.tuple #[idV (zero8 32), .int .i64 17]) ∧ Below w.heap.size w w' := by
  have HRI := hid (fun w h => idRises A n c xs w h hn h32 hmax)
  rw [hr] at HRI
  have HX := hid hx
  clear hx hn h32 hr
  go_enter Try.func42, Try.ntmps42
  have HB := hid (grow_refl w)
  apply wp_seq_k; intro _ _; apply wp_region_lit
  refine op_alloc rfl rfl ?_
  intro gr w1 hgl hgu hb hr
  have HRL := hid (Nat.le_trans HB.out.size hgl)
  replace HB := hid (Grow.trans HB.out hb)
  have HR := hid hr; have HRU := hid hgu
  clear hr hgl hgu hb
  try simp only [Act.put, List.setIfInBounds_toArray, List.set_cons_zero, List.set_cons_succ]
  go_wp2_with fail
  refine (HRI.out _ (HX.out.grow HB.out)).mono ?_
  rintro e w2 ⟨rfl, hb⟩
  replace HB := hid (Grow.trans HB.out hb)
  replace HR := hid (grow_block HR.out hb)
  clear hb
  go_wp2_with (first |  (refine op_buildId rfl rfl ?_) | (refine op_storeId (l := zero8 32) rfl rfl rfl rfl rfl HR.out (by rfl) (rfl) ?_))
  intro wz hz _ hbz
  have HZ := hid hz; have HBZ := hid (hbz _ _ HB.out HRL.out)
  clear hz hbz
  go_wp2_with fail
  refine bodyPost_ret (ret_idt rfl rfl HZ.out (rfl)) rfl ⟨?_, HBZ.out⟩
  rfl
theorem mkSum (A : Option Addr) (n c : Nat) (xs : List (List UInt8)) (w : World) (hx : IdRow w A xs) (hn : xs.length = n) (hc : n ≤ c) (h32 : ∀ s ∈ xs, s.length = 32) (hmax : n ≤ 1000000) (hr : risesB xs = true) :
    Calls Try.prog 42 #[.slice A n c] w fun e w' => e = .returned (.tuple #[idV (sumV xs), .int .i64 0]) ∧ Below w.heap.size w w' := by
  have HRI := hid (fun w h => idRises A n c xs w h hn h32 hmax)
  rw [hr] at HRI
  have HRO := hid (fun w h => mkRoot n A n c xs w (by omega) h hn hc h32 hmax)
  have HWH := hid (fun w => mkWhole (n : Int) n (by omega) (by omega) (rootL xs) (rootL_length xs) w)
  have HE := hid (show sumV xs = wholeOf n (rootL xs) by rw [sumV, hn])
  have HTL := hid (wholeOf_length n (rootL xs))
  have HX := hid hx
  clear hx hn h32 hr hc
  rw [HE.out]
  generalize rootL xs = r at *
  go_enter Try.func42, Try.ntmps42
  have HB := hid (grow_refl w)
  apply wp_seq_k; intro _ _; apply wp_region_lit
  refine op_alloc rfl rfl ?_
  intro gr w1 hgl hgu hb hr
  have HRL := hid (Nat.le_trans HB.out.size hgl)
  replace HB := hid (Grow.trans HB.out hb)
  have HR := hid hr; have HRU := hid hgu
  clear hr hgl hgu hb
  try simp only [Act.put, List.setIfInBounds_toArray, List.set_cons_zero, List.set_cons_succ]
  go_wp2_with fail
  refine (HRI.out _ (HX.out.grow HB.out)).mono ?_
  rintro e w2 ⟨rfl, hb⟩
  replace HB := hid (Grow.trans HB.out hb)
  replace HR := hid (grow_block HR.out hb)
  clear hb
  go_wp2_with (first |  fail)
  refine (HRO.out _ (HX.out.grow HB.out)).mono ?_
  rintro e w3 ⟨rfl, hb⟩
  replace HB := hid (Grow.trans HB.out hb)
  replace HR := hid (grow_block HR.out hb)
  clear hb
  go_wp2_with (first |  fail)
  refine (HWH.out _).mono ?_
  rintro e w4 ⟨rfl, hb⟩
  replace HB := hid (Grow.trans HB.out hb)
  replace HR := hid (grow_block HR.out hb)
  clear hb
  go_wp2_with (first |  (refine op_buildId rfl rfl ?_) | (refine op_storeId (l := wholeOf n r) rfl rfl rfl rfl rfl HR.out (by rfl) (HTL.out) ?_))
  intro wz hz _ hbz
  have HZ := hid hz; have HBZ := hid (hbz _ _ HB.out HRL.out)
  clear hz hbz
  go_wp2_with fail
  refine bodyPost_ret (ret_idt rfl rfl HZ.out (HTL.out)) rfl ⟨?_, HBZ.out⟩
  rfl
theorem refSum21 (A : Option Addr) (n c : Nat) (xs : List (List UInt8)) (w : World) (hx : IdRow w A xs) (hn : xs.length = n) (hc : n ≤ c) (h32 : ∀ s ∈ xs, s.length = 32) (hmax : n ≤ 1000000) :
    Calls Try.prog 48 #[.slice A n c] w fun e w' => e = .returned (idV (sumV xs)) ∧ Below w.heap.size w w' := by
  have HRO := hid (fun w h => refRoot n A n c xs w (by omega) h hn hc h32 hmax)
  have HWH := hid (fun w => refWhole21 (n : Int) n (by omega) (by omega) (rootL xs) (rootL_length xs) w)
  have HE := hid (show sumV xs = wholeOf n (rootL xs) by rw [sumV, hn])
  have HTL := hid (wholeOf_length n (rootL xs))
  have HX := hid hx
  clear hx hn h32 hc
  rw [HE.out]
  generalize rootL xs = r at *
  go_enter Try.func48, Try.ntmps48
  have HB := hid (grow_refl w)
  apply wp_seq_k; intro _ _; apply wp_region_lit
  refine op_alloc rfl rfl ?_
  intro gr w1 hgl hgu hb hr
  have HRL := hid (Nat.le_trans HB.out.size hgl)
  replace HB := hid (Grow.trans HB.out hb)
  have HR := hid hr; have HRU := hid hgu
  clear hr hgl hgu hb
  try simp only [Act.put, List.setIfInBounds_toArray, List.set_cons_zero, List.set_cons_succ]
  refine wpList_nil ?_
  go_wp2_with (first |  fail)
  refine (HRO.out _ (HX.out.grow HB.out)).mono ?_
  rintro e w2 ⟨rfl, hb⟩
  replace HB := hid (Grow.trans HB.out hb)
  replace HR := hid (grow_block HR.out hb)
  clear hb
  go_wp2_with (first |  fail)
  refine (HWH.out _).mono ?_
  rintro e w3 ⟨rfl, hb⟩
  replace HB := hid (Grow.trans HB.out hb)
  replace HR := hid (grow_block HR.out hb)
  clear hb
  go_wp2_with (first |  (refine op_buildId rfl rfl ?_) | (refine op_storeId (l := wholeOf n r) rfl rfl rfl rfl rfl HR.out (by rfl) (HTL.out) ?_))
  intro wz hz _ hbz
  have HZ := hid hz; have HBZ := hid (hbz _ _ HB.out HRL.out)
  clear hz hbz
  go_wp2_with fail
  refine bodyPost_ret (ret_id rfl rfl HZ.out (HTL.out)) rfl ⟨?_, HBZ.out⟩
  rfl
end Go.Proofs.Ytffgifegaagndaa
