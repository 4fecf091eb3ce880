/- merkle: half, item, none, Root; the document's; sums of sets. -/
import Derived.Test.YtffgifegaagndaaQMerP
import Derived.Test.YtffgifegaagndaaQSrt6
import Derived.Test.YtffgifegaagndaaQLamp1
import Derived.Test.YtffgifegaagndaaQSet1
set_option linter.unusedSimpArgs false
set_option linter.unusedVariables false
namespace Go.Proofs.Ytffgifegaagndaa
open Go.RowKit
open Go.Qk hiding rotr b4
set_option maxHeartbeats 1000000
set_option maxRecDepth 100000
theorem strRow_none (w : World) : StrRow w none [] := ⟨by simp, fun h => absurd rfl h⟩
theorem mkHalf (n : Nat) (hn : n ≤ 1099511627776) (w : World) : Calls Try.prog 104 #[.int .i64 (n : Int)] w fun e w' => e = .returned (.int .i64 (halfN n : Int)) ∧ Below w.heap.size w w' := by
  obtain ⟨R, hR⟩ : ∃ R, R = halfN n := ⟨_, rfl⟩
  have HR := hid (show halfF n n 1 = R from hR.symm)
  have HE := hid hR
  have nb : (n : Int) ≤ 1099511627776 := by omega
  clear hR
  go_enter Try.func104, Try.ntmps104
  have HB := hid (grow_refl w)
  go_wp2_with fail
  go_loopg [3] n (fun z i wr => ∃ k : Nat, 1 ≤ k ∧ (k ≤ n ∨ k = 1) ∧ n - k ≤ z ∧ i = .int .i64 (k : Int) ∧ Hid (halfF n z k = R) ∧ Hid (Grow w wr))
  case atStart => exact ⟨1, Nat.le_refl _, .inr rfl, by omega, rfl, HR, HB⟩
  case round =>
    clear HB HR
    obtain ⟨k, h1, h2, hz, rfl, HR, HB⟩ := hrel
    have k1 : (1 : Int) ≤ (k : Int) := by omega
    have k2 : (k : Int) ≤ 1099511627776 := by omega
    by_cases hlt : 2 * k < n
    · obtain ⟨f, rfl⟩ : ∃ f, gk = f + 1 := ⟨gk - 1, by omega⟩
      have HR2 := hid (show halfF n f (2 * k) = R by have := HR.out; unfold halfF at this; rw [if_pos hlt] at this; exact this)
      have t1 : 2 * (k : Int) < (n : Int) := by omega
      have HLT := hid hlt
      clear hlt HR
      go_wp2_with fail
      go_roundg f
      case rel => exact ⟨2 * k, by omega, .inl (by have := HLT.out; omega), by omega, by go_num, HR2, HB⟩
      case measure => omega
    · have HR2 := hid (show k = R by rw [← HR.out, halfF_stop n k hlt])
      have t1 : ¬ 2 * (k : Int) < (n : Int) := by omega
      clear hlt HR
      go_wp2_with fail
      go_ret
      exact ⟨by rw [← HE.out, ← HR2.out]; rfl, HB.out⟩
theorem refHalf (n : Nat) (hn : n ≤ 1099511627776) (w : World) : Calls Try.prog 106 #[.int .i64 (n : Int)] w fun e w' => e = .returned (.int .i64 (halfN n : Int)) ∧ Below w.heap.size w w' := by
  obtain ⟨R, hR⟩ : ∃ R, R = halfN n := ⟨_, rfl⟩
  have HR := hid (show halfF n n 1 = R from hR.symm)
  have HE := hid hR
  have nb : (n : Int) ≤ 1099511627776 := by omega
  clear hR
  go_enter Try.func106, Try.ntmps106
  have HB := hid (grow_refl w)
  go_wp2_with fail
  go_loopg [3] n (fun z i wr => ∃ k : Nat, 1 ≤ k ∧ (k ≤ n ∨ k = 1) ∧ n - k ≤ z ∧ i = .int .i64 (k : Int) ∧ Hid (halfF n z k = R) ∧ Hid (Grow w wr))
  case atStart => exact ⟨1, Nat.le_refl _, .inr rfl, by omega, rfl, HR, HB⟩
  case round =>
    clear HB HR
    obtain ⟨k, h1, h2, hz, rfl, HR, HB⟩ := hrel
    have k1 : (1 : Int) ≤ (k : Int) := by omega
    have k2 : (k : Int) ≤ 1099511627776 := by omega
    by_cases hlt : 2 * k < n
    · obtain ⟨f, rfl⟩ : ∃ f, gk = f + 1 := ⟨gk - 1, by omega⟩
      have HR2 := hid (show halfF n f (2 * k) = R by have := HR.out; unfold halfF at this; rw [if_pos hlt] at this; exact this)
      have t1 : 2 * (k : Int) < (n : Int) := by omega
      have HLT := hid hlt
      clear hlt HR
      go_wp2_with fail
      go_roundg f
      case rel => exact ⟨2 * k, by omega, .inl (by have := HLT.out; omega), by omega, by go_num, HR2, HB⟩
      case measure => omega
    · have HR2 := hid (show k = R by rw [← HR.out, halfF_stop n k hlt])
      have t1 : ¬ 2 * (k : Int) < (n : Int) := by omega
      clear hlt HR
      go_wp2_with fail
      go_ret
      exact ⟨by rw [← HE.out, ← HR2.out]; rfl, HB.out⟩
theorem mkItem (a : List UInt8) (ha : a.length = 32) (w : World) :
    Calls Try.prog 103 #[idV a] w fun e w' => e = .returned (idV (itemOf a)) ∧ Below w.heap.size w w' := by
  have HA := hid ha
  have HTL := hid (itemOf_length a)
  have HS := hid (textOf_one itemName a (by decide) (by omega))
  clear ha
  go_enter Try.func103, Try.ntmps103
  have HB := hid (grow_refl w)
  apply wp_seq_k; intro _ _; apply wp_region_lit
  refine op_box (l := a) rfl rfl rfl ?_
  intro gx w1 hgl hgu hb hr
  have XL := hid (Nat.le_trans HB.out.size hgl)
  replace HB := hid (Grow.trans HB.out hb)
  have X := hid hr; have XU := hid hgu
  clear hr hgl hgu hb
  try simp only [Act.put, List.setIfInBounds_toArray, List.set_cons_zero, List.set_cons_succ]
  refine op_alloc rfl rfl ?_
  intro gr w2 hgl hgu hb hr
  have HRL := hid (Nat.le_trans HB.out.size hgl)
  replace HB := hid (Grow.trans HB.out hb)
  replace X := hid (grow_block X.out hb)
  have HR := hid hr; have HRU := hid hgu
  clear hr hgl hgu hb
  try simp only [Act.put, List.setIfInBounds_toArray, List.set_cons_zero, List.set_cons_succ]
  refine wpList_nil ?_
  have hcx := run_strId X.out HA.out
  go_wp2_with fail
  refine (tagOf itemName _ _ _ [bs a] _ (strRow_alloc _ [bs a] _ (by simp)) rfl (by decide) HS.out).mono ?_
  rintro e w3 ⟨rfl, hb⟩
  replace hb := Grow.trans (grow_alloc _ _) hb
  replace HB := hid (Grow.trans HB.out hb)
  replace X := hid (grow_block X.out hb)
  replace HR := hid (grow_block HR.out hb)
  clear hb
  clear hcx
  go_wp2_with (first |  (refine op_allocstore (l := itemOf a) rfl rfl rfl rfl rfl rfl (fun _ => rfl) ⟨fun _ => rfl, HTL.out⟩ ?_))
  intro g9 w4 hgl hgu hb hr
  have H9L := hid (Nat.le_trans HB.out.size hgl)
  replace HB := hid (Grow.trans HB.out hb)
  replace X := hid (grow_block X.out hb)
  replace HR := hid (grow_block HR.out hb)
  have H9 := hid hr; have H9U := hid hgu
  clear hr hgl hgu hb
  try simp only [Act.put, List.setIfInBounds_toArray, List.set_cons_zero, List.set_cons_succ]
  go_wp2_with (first | (refine op_loadId rfl rfl rfl H9.out (HTL.out) ?_) |  (refine op_buildId rfl rfl ?_) | (refine op_storeId (l := itemOf a) rfl rfl rfl rfl rfl HR.out (by rfl) (HTL.out) ?_))
  intro wz hz _ hbz
  have HZ := hid hz; have HBZ := hid (hbz _ _ HB.out HRL.out)
  clear hz hbz
  go_wp2_with fail
  refine bodyPost_ret (ret_id rfl rfl HZ.out (HTL.out)) rfl ⟨?_, HBZ.out⟩
  rfl
theorem mkNone (w : World) : Calls Try.prog 102 #[] w fun e w' => e = .returned (idV noneOf) ∧ Below w.heap.size w w' := by
  have HTL := hid noneOf_length
  have HS := hid (show (textOf noneName []).length ≤ 140737488355328 by decide +kernel)
  go_enter Try.func102, Try.ntmps102
  have HB := hid (grow_refl w)
  apply wp_seq_k; intro _ _; apply wp_region_lit
  refine op_alloc rfl rfl ?_
  intro gr w1 hgl hgu hb hr
  have HRL := hid (Nat.le_trans HB.out.size hgl)
  replace HB := hid (Grow.trans HB.out hb)
  have HR := hid hr; have HRU := hid hgu
  clear hr hgl hgu hb
  try simp only [Act.put, List.setIfInBounds_toArray, List.set_cons_zero, List.set_cons_succ]
  refine wpList_nil ?_
  go_wp2_with fail
  refine (tagOf noneName none 0 0 [] _ (strRow_none _) rfl (by decide) HS.out).mono ?_
  rintro e w2 ⟨rfl, hb⟩
  replace HB := hid (Grow.trans HB.out hb)
  replace HR := hid (grow_block HR.out hb)
  clear hb
  go_wp2_with (first |  (refine op_allocstore (l := noneOf) rfl rfl rfl rfl rfl rfl (fun _ => rfl) ⟨fun _ => rfl, HTL.out⟩ ?_))
  intro g9 w3 hgl hgu hb hr
  have H9L := hid (Nat.le_trans HB.out.size hgl)
  replace HB := hid (Grow.trans HB.out hb)
  replace HR := hid (grow_block HR.out hb)
  have H9 := hid hr; have H9U := hid hgu
  clear hr hgl hgu hb
  try simp only [Act.put, List.setIfInBounds_toArray, List.set_cons_zero, List.set_cons_succ]
  go_wp2_with (first | (refine op_loadId rfl rfl rfl H9.out (HTL.out) ?_) |  (refine op_buildId rfl rfl ?_) | (refine op_storeId (l := noneOf) rfl rfl rfl rfl rfl HR.out (by rfl) (HTL.out) ?_))
  intro wz hz _ hbz
  have HZ := hid hz; have HBZ := hid (hbz _ _ HB.out HRL.out)
  clear hz hbz
  go_wp2_with fail
  refine bodyPost_ret (ret_id rfl rfl HZ.out (HTL.out)) rfl ⟨?_, HBZ.out⟩
  rfl
theorem mkRoot : ∀ (f : Nat) (A : Option Addr) (n c : Nat) (xs : List (List UInt8)) (w : World), xs.length ≤ f → IdRow w A xs → xs.length = n → n ≤ c → (∀ s ∈ xs, s.length = 32) → n ≤ 1000000 →
    Calls Try.prog 46 #[.slice A n c] w fun e w' => e = .returned (idV (rootL xs)) ∧ Below w.heap.size w w'
  | f, A, n, c, xs, w, hf, hx, hn, hc, h32, hmax => by
    have HX := hid hx
    have HN := hid hn
    have H32 := hid h32
    have HC := hid hc
    have HTL := hid (rootL_length xs)
    have HF := hid hf
    by_cases h0 : n = 0
    · have HE := hid (rootL_none xs (by omega))
      have t1 : ((n : Int) == 0) = true := by simp; omega
      have HTL := hid noneOf_length
      clear hx hn h32 hc hf h0
      go_enter Try.func46, Try.ntmps46
      have HB := hid (grow_refl w)
      apply wp_seq_k; intro _ _; apply wp_region_lit
      refine op_alloc rfl rfl ?_
      intro gr w1 hgl hgu hb hr
      have HRL := hid (Nat.le_trans HB.out.size hgl)
      replace HB := hid (Grow.trans HB.out hb)
      have HR := hid hr; have HRU := hid hgu
      clear hr hgl hgu hb
      try simp only [Act.put, List.setIfInBounds_toArray, List.set_cons_zero, List.set_cons_succ]
      refine wpList_nil ?_
      go_wp2_with fail
      refine (mkNone _).mono ?_
      rintro e w2 ⟨rfl, hb⟩
      replace HB := hid (Grow.trans HB.out hb)
      replace HR := hid (grow_block HR.out hb)
      clear hb
      go_wp2_with (first |  (refine op_buildId rfl rfl ?_) | (refine op_storeId (l := noneOf) rfl rfl rfl rfl rfl HR.out (by rfl) (HTL.out) ?_))
      intro wz hz _ hbz
      have HZ := hid hz; have HBZ := hid (hbz _ _ HB.out HRL.out)
      clear hz hbz
      go_wp2_with fail
      refine bodyPost_ret (ret_id rfl rfl HZ.out (HTL.out)) rfl ⟨?_, HBZ.out⟩
      rw [HE.out]
    · by_cases h1 : n = 1
      · have HE := hid (rootL_one xs (by omega))
        have t1 : ((n : Int) == 0) = false := by simp; omega
        have t2 : ((n : Int) == 1) = true := by simp; omega
        have n1 : (0 : Int) < (n : Int) := by omega
        obtain ⟨ad, rfl, hd⟩ := hx.at_ 0 (by omega)
        rw [show ad.add (0 * 32) = ad by unfold Addr.add; split <;> simp_all] at hd
        have HD := hid hd
        have S1 := hid (getD_mem_len h32 (show 0 < xs.length by omega))
        have HTL := hid (itemOf_length (xs.getD 0 []))
        clear hx hn h32 hc hf h0 h1 hd
        generalize xs.getD 0 [] = s at *
        go_enter Try.func46, Try.ntmps46
        have HB := hid (grow_refl w)
        apply wp_seq_k; intro _ _; apply wp_region_lit
        refine op_alloc rfl rfl ?_
        intro gr w3 hgl hgu hb hr
        have HRL := hid (Nat.le_trans HB.out.size hgl)
        replace HB := hid (Grow.trans HB.out hb)
        have HR := hid hr; have HRU := hid hgu
        clear hr hgl hgu hb
        try simp only [Act.put, List.setIfInBounds_toArray, List.set_cons_zero, List.set_cons_succ]
        refine wpList_nil ?_
        have HDB := hid (fun j v hv => grow_cell (HD.out j v hv) HB.out)
        go_wp2_with (first | (refine op_loadAt (l := s) rfl rfl rfl HDB.out S1.out ?_) | fail)
        clear HDB
        refine (mkItem s S1.out _).mono ?_
        rintro e w4 ⟨rfl, hb⟩
        replace HB := hid (Grow.trans HB.out hb)
        replace HR := hid (grow_block HR.out hb)
        clear hb
        go_wp2_with (first |  (refine op_buildId rfl rfl ?_) | (refine op_storeId (l := itemOf s) rfl rfl rfl rfl rfl HR.out (by rfl) (HTL.out) ?_))
        intro wz hz _ hbz
        have HZ := hid hz; have HBZ := hid (hbz _ _ HB.out HRL.out)
        clear hz hbz
        go_wp2_with fail
        refine bodyPost_ret (ret_id rfl rfl HZ.out (HTL.out)) rfl ⟨?_, HBZ.out⟩
        rw [HE.out]
      · have h2 : 2 ≤ xs.length := by omega
        have hk := halfN_lt h2
        rw [hn] at hk
        obtain ⟨k, hkk⟩ : ∃ k, k = halfN n := ⟨_, rfl⟩
        have HE := hid (show rootL xs = joinOf (rootL (xs.take k)) (rootL (xs.drop k)) by rw [hkk, ← hn]; exact rootL_two xs h2)
        rw [← hkk] at hk
        have t1 : ((n : Int) == 0) = false := by simp; omega
        have t2 : ((n : Int) == 1) = false := by simp; omega
        obtain ⟨ad, rfl, _⟩ := hx.at_ 0 (by omega)
        obtain ⟨f2, rfl⟩ : ∃ f2, f = f2 + 1 := ⟨f - 1, by omega⟩
        have HR1 := hid (fun w (h : IdRow w (some ad) xs) => mkRoot f2 (some ad) k c (xs.take k) w (by rw [List.length_take]; omega) (idRow_take h k) (by rw [List.length_take]; omega) (by omega) (fun s hs => h32 s (List.mem_of_mem_take hs)) (by omega))
        have HR2 := hid (fun w (h : IdRow w (some ad) xs) => mkRoot f2 (some (ad.add (k * 32))) (n - k) (c - k) (xs.drop k) w (by rw [List.length_drop]; omega) (idRow_drop h k) (by rw [List.length_drop]; omega) (by omega) (fun s hs => h32 s (List.mem_of_mem_drop hs)) (by omega))
        have hs1 := run_idsTo (ad := ad) (n := n) (c := c) (k := k) (by omega)
        have hs2 := run_idsFrom (ad := ad) (n := n) (c := c) (k := k) (by omega) hc (by omega)
        have HH := hid (fun w => mkHalf n (by omega) w)
        rw [← hkk] at HH
        obtain ⟨n2, hn2⟩ : ∃ m, m = n - k := ⟨_, rfl⟩
        obtain ⟨c2, hc2⟩ : ∃ m, m = c - k := ⟨_, rfl⟩
        obtain ⟨ad2, had2⟩ : ∃ a, a = ad.add (k * 32) := ⟨_, rfl⟩
        rw [← hn2, ← hc2, ← had2] at hs2 HR2
        have L1 := hid (rootL_length (xs.take k))
        have L2 := hid (rootL_length (xs.drop k))
        have HTL := hid (joinOf_length (rootL (xs.take k)) (rootL (xs.drop k)))
        clear hx hn h32 hc hf h0 h1 h2 hk hkk hn2 hc2 had2
        generalize rootL (xs.take k) = r1 at *
        generalize rootL (xs.drop k) = r2 at *
        go_enter Try.func46, Try.ntmps46
        have HB := hid (grow_refl w)
        apply wp_seq_k; intro _ _; apply wp_region_lit
        refine op_alloc rfl rfl ?_
        intro gr w5 hgl hgu hb hr
        have HRL := hid (Nat.le_trans HB.out.size hgl)
        replace HB := hid (Grow.trans HB.out hb)
        have HR := hid hr; have HRU := hid hgu
        clear hr hgl hgu hb
        try simp only [Act.put, List.setIfInBounds_toArray, List.set_cons_zero, List.set_cons_succ]
        refine wpList_nil ?_
        go_wp2_with fail
        refine (HH.out _).mono ?_
        rintro e w6 ⟨rfl, hb⟩
        replace HB := hid (Grow.trans HB.out hb)
        replace HR := hid (grow_block HR.out hb)
        clear hb
        go_wp2_with fail
        (refine' wp_region_head 9 1 [_, _, _, _, _, _, _, _, _] rfl (by kernel_rfl) (by kernel_rfl) ?hreg1; case' hreg1 => simp only [List.take_succ_cons, List.take_zero, List.zip_cons_cons, List.zip_nil_right, List.drop_succ_cons, List.drop_zero, List.drop_nil])
        (refine' head_val ?dw2 ?de2 ?dr2 ?dh2; (case' dw2 => rfl); (case' de2 => (first | exact fun _ _ _ => trivial | (intro t ht w; cases ht; simp [upE]))); (case' dr2 => (intro w' hw' _; go_simp; with_reducible rfl)); (case' dh2 => (try simp only [Act.put, List.setIfInBounds_toArray, List.set_cons_zero, List.set_cons_succ]))); (refine' head_val ?dw3 ?de3 ?dr3 ?dh3; (case' dw3 => rfl); (case' de3 => (first | exact fun _ _ _ => trivial | (intro t ht w; cases ht; simp [upE]))); (case' dr3 => (intro w' hw' _; go_simp; with_reducible rfl)); (case' dh3 => (try simp only [Act.put, List.setIfInBounds_toArray, List.set_cons_zero, List.set_cons_succ]))); (refine' head_val ?dw4 ?de4 ?dr4 ?dh4; (case' dw4 => rfl); (case' de4 => (first | exact fun _ _ _ => trivial | (intro t ht w; cases ht; simp [upE]))); (case' dr4 => (intro w' hw' _; go_simp; with_reducible rfl)); (case' dh4 => (try simp only [Act.put, List.setIfInBounds_toArray, List.set_cons_zero, List.set_cons_succ])))
        (refine' head_call ?cw5 ?ce5 ?cr5 ?cc5 ?ch5; (case' cw5 => rfl); (case' ce5 => (first | exact fun _ _ _ => trivial | (intro t ht w; cases ht; simp [upE]))); (case' cr5 => (intro w'; go_simp; first | exact ⟨rfl, rfl⟩ | with_reducible rfl)); (case' cc5 => (intro w' hw' _; exact HR1.out w' (HX.out.grow (HB.out.trans hw')))); (case' ch5 => (try simp only [Act.put, List.setIfInBounds_toArray, List.set_cons_zero, List.set_cons_succ])))
        (refine' head_val ?dw6 ?de6 ?dr6 ?dh6; (case' dw6 => rfl); (case' de6 => (first | exact fun _ _ _ => trivial | (intro t ht w; cases ht; simp [upE]))); (case' dr6 => (intro w' hw' _; go_simp; with_reducible rfl)); (case' dh6 => (try simp only [Act.put, List.setIfInBounds_toArray, List.set_cons_zero, List.set_cons_succ]))); (refine' head_val ?dw7 ?de7 ?dr7 ?dh7; (case' dw7 => rfl); (case' de7 => (first | exact fun _ _ _ => trivial | (intro t ht w; cases ht; simp [upE]))); (case' dr7 => (intro w' hw' _; go_simp; with_reducible rfl)); (case' dh7 => (try simp only [Act.put, List.setIfInBounds_toArray, List.set_cons_zero, List.set_cons_succ]))); (refine' head_val ?dw8 ?de8 ?dr8 ?dh8; (case' dw8 => rfl); (case' de8 => (first | exact fun _ _ _ => trivial | (intro t ht w; cases ht; simp [upE]))); (case' dr8 => (intro w' hw' _; go_simp; with_reducible rfl)); (case' dh8 => (try simp only [Act.put, List.setIfInBounds_toArray, List.set_cons_zero, List.set_cons_succ])))
        (refine' head_call ?cw9 ?ce9 ?cr9 ?cc9 ?ch9; (case' cw9 => rfl); (case' ce9 => (first | exact fun _ _ _ => trivial | (intro t ht w; cases ht; simp [upE]))); (case' cr9 => (intro w'; go_simp; first | exact ⟨rfl, rfl⟩ | with_reducible rfl)); (case' cc9 => (intro w' hw' _; exact HR2.out w' (HX.out.grow (HB.out.trans hw')))); (case' ch9 => (try simp only [Act.put, List.setIfInBounds_toArray, List.set_cons_zero, List.set_cons_succ])))
        (refine' head_call ?cw10 ?ce10 ?cr10 ?cc10 ?ch10; (case' cw10 => rfl); (case' ce10 => (first | exact fun _ _ _ => trivial | (intro t ht w; cases ht; simp [upE]))); (case' cr10 => (intro w'; go_simp; first | exact ⟨rfl, rfl⟩ | with_reducible rfl)); (case' cc10 => (intro w' hw' _; exact tagPair joinName r1 r2 L1.out L2.out (by decide) w')); (case' ch10 => (try simp only [Act.put, List.setIfInBounds_toArray, List.set_cons_zero, List.set_cons_succ])))
        clear hs1 hs2
        refine head_nil ?_
        intro w7 hb _
        replace HB := hid (Grow.trans HB.out hb)
        replace HR := hid (grow_block HR.out hb)
        clear hb
        go_wp2_with (first |  (refine op_buildId rfl rfl ?_) | (refine op_storeId (l := joinOf r1 r2) rfl rfl rfl rfl rfl HR.out (by rfl) (HTL.out) ?_))
        intro wz hz _ hbz
        have HZ := hid hz; have HBZ := hid (hbz _ _ HB.out HRL.out)
        clear hz hbz
        go_wp2_with fail
        refine bodyPost_ret (ret_id rfl rfl HZ.out (HTL.out)) rfl ⟨?_, HBZ.out⟩
        rw [HE.out]
end Go.Proofs.Ytffgifegaagndaa
