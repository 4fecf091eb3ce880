/- The law SignerVerifies: walk. -/
import Derived.Test.YtffgifegaagndaaQSig5
import Derived.Test.YtffgifegaagndaaQSig3
set_option linter.unusedSimpArgs false
set_option linter.unusedVariables false
namespace Go.Proofs.Ytffgifegaagndaa
open Go.RowKit
open Go.Qk hiding rotr b4
set_option maxHeartbeats 1000000
set_option maxRecDepth 100000
theorem signerVerifies_long (b h : Int) (key sum : IdK) (hkl : key.length = 32) (hs : sum.length = 32) (leaf : Int) (hlm : leaf ≤ 9223372036854775807) (A B C : Option Addr) (n m k c d e : Nat) (shown hidden way : List IdK) (w : World) (hA : IdRow w A shown) (hB : IdRow w B hidden) (hC : IdRow w C way) (hn : shown.length = n) (hm : hidden.length = m) (hk : way.length = k) (h1 : ∀ s ∈ shown, s.length = 32) (h2 : ∀ s ∈ hidden, s.length = 32) (h3 : ∀ s ∈ way, s.length = 32) (hlg : 20 < n ∨ 20 < m ∨ 12 < k) :
    Calls Try.prog 13 #[.agg #[.int .i64 b, .int .i64 h], idV key, idV sum, .agg #[.int .i64 leaf, .slice A n c, .slice B m d, .slice C k e]] w fun e w' => e = .returned (.bool true) ∧ Below w.heap.size w w' := by
  have b1 : n ≤ 9223372036854775807 := by rw [← hn]; exact hA.1
  have b2 : m ≤ 9223372036854775807 := by rw [← hm]; exact hB.1
  have b3 : k ≤ 9223372036854775807 := by rw [← hk]; exact hC.1
  have HS := hid hs
  have HK := hid hkl
  clear hA hB hC hn hm hk h1 h2 h3 hs hkl
  by_cases c1 : 20 < n
  · have t1 : decide ((20 : Int) < (n : Int)) = true := by simp; omega
    clear hlg
    go_enter Try.func13, Try.ntmps13
    have HB := hid (grow_refl w)
    apply wp_seq_k; intro _ _; apply wp_region_lit
    refine op_boxC (cs := #[.int .i64 b, .int .i64 h]) rfl rfl rfl rfl ?_
    intro gp w1 hgl hgu hb hr
    have PL := hid (Nat.le_trans HB.out.size hgl)
    replace HB := hid (Grow.trans HB.out hb)
    have P := hid hr; have PU := hid hgu
    clear hr hgl hgu hb
    try simp only [Act.put, List.setIfInBounds_toArray, List.set_cons_zero, List.set_cons_succ]
    refine op_box (l := key) rfl rfl rfl ?_
    intro gk w2 hgl hgu hb hr
    have KL := hid (Nat.le_trans HB.out.size hgl)
    replace HB := hid (Grow.trans HB.out hb)
    replace P := hid (grow_block P.out hb)
    have K := hid hr; have KU := hid hgu
    clear hr hgl hgu hb
    try simp only [Act.put, List.setIfInBounds_toArray, List.set_cons_zero, List.set_cons_succ]
    refine op_box (l := sum) rfl rfl rfl ?_
    intro gs w3 hgl hgu hb hr
    have SL := hid (Nat.le_trans HB.out.size hgl)
    replace HB := hid (Grow.trans HB.out hb)
    replace P := hid (grow_block P.out hb)
    replace K := hid (grow_block K.out hb)
    have S := hid hr; have SU := hid hgu
    clear hr hgl hgu hb
    try simp only [Act.put, List.setIfInBounds_toArray, List.set_cons_zero, List.set_cons_succ]
    refine op_boxC (cs := #[.int .i64 leaf, .slice A n c, .slice B m d, .slice C k e]) rfl rfl rfl rfl ?_
    intro gx w4 hgl hgu hb hr
    have XL := hid (Nat.le_trans HB.out.size hgl)
    replace HB := hid (Grow.trans HB.out hb)
    replace P := hid (grow_block P.out hb)
    replace K := hid (grow_block K.out hb)
    replace S := hid (grow_block S.out hb)
    have X := hid hr; have XU := hid hgu
    clear hr hgl hgu hb
    try simp only [Act.put, List.setIfInBounds_toArray, List.set_cons_zero, List.set_cons_succ]
    have x1 := blk_cell (i := 1) (v := .slice A n c) X.out rfl
    have x2 := blk_cell (i := 2) (v := .slice B m d) X.out rfl
    have x3 := blk_cell (i := 3) (v := .slice C k e) X.out rfl
    go_wp2_with fail
    clear x1 x2 x3
    refine (awake08 _).mono ?_
    rintro e w5 ⟨rfl, hb⟩
    replace HB := hid (Grow.trans HB.out hb)
    replace P := hid (grow_block P.out hb)
    replace K := hid (grow_block K.out hb)
    replace S := hid (grow_block S.out hb)
    replace X := hid (grow_block X.out hb)
    clear hb
    go_wp2
    go_ret
    exact ⟨rfl, HB.out⟩
  · have t1 : decide ((20 : Int) < (n : Int)) = false := by simp; omega
    by_cases c2 : 20 < m
    · have t2 : decide ((20 : Int) < (m : Int)) = true := by simp; omega
      clear hlg
      go_enter Try.func13, Try.ntmps13
      have HB := hid (grow_refl w)
      apply wp_seq_k; intro _ _; apply wp_region_lit
      refine op_boxC (cs := #[.int .i64 b, .int .i64 h]) rfl rfl rfl rfl ?_
      intro gp w6 hgl hgu hb hr
      have PL := hid (Nat.le_trans HB.out.size hgl)
      replace HB := hid (Grow.trans HB.out hb)
      have P := hid hr; have PU := hid hgu
      clear hr hgl hgu hb
      try simp only [Act.put, List.setIfInBounds_toArray, List.set_cons_zero, List.set_cons_succ]
      refine op_box (l := key) rfl rfl rfl ?_
      intro gk w7 hgl hgu hb hr
      have KL := hid (Nat.le_trans HB.out.size hgl)
      replace HB := hid (Grow.trans HB.out hb)
      replace P := hid (grow_block P.out hb)
      have K := hid hr; have KU := hid hgu
      clear hr hgl hgu hb
      try simp only [Act.put, List.setIfInBounds_toArray, List.set_cons_zero, List.set_cons_succ]
      refine op_box (l := sum) rfl rfl rfl ?_
      intro gs w8 hgl hgu hb hr
      have SL := hid (Nat.le_trans HB.out.size hgl)
      replace HB := hid (Grow.trans HB.out hb)
      replace P := hid (grow_block P.out hb)
      replace K := hid (grow_block K.out hb)
      have S := hid hr; have SU := hid hgu
      clear hr hgl hgu hb
      try simp only [Act.put, List.setIfInBounds_toArray, List.set_cons_zero, List.set_cons_succ]
      refine op_boxC (cs := #[.int .i64 leaf, .slice A n c, .slice B m d, .slice C k e]) rfl rfl rfl rfl ?_
      intro gx w9 hgl hgu hb hr
      have XL := hid (Nat.le_trans HB.out.size hgl)
      replace HB := hid (Grow.trans HB.out hb)
      replace P := hid (grow_block P.out hb)
      replace K := hid (grow_block K.out hb)
      replace S := hid (grow_block S.out hb)
      have X := hid hr; have XU := hid hgu
      clear hr hgl hgu hb
      try simp only [Act.put, List.setIfInBounds_toArray, List.set_cons_zero, List.set_cons_succ]
      have x1 := blk_cell (i := 1) (v := .slice A n c) X.out rfl
      have x2 := blk_cell (i := 2) (v := .slice B m d) X.out rfl
      have x3 := blk_cell (i := 3) (v := .slice C k e) X.out rfl
      go_wp2_with fail
      clear x1 x2 x3
      refine (awake08 _).mono ?_
      rintro e w10 ⟨rfl, hb⟩
      replace HB := hid (Grow.trans HB.out hb)
      replace P := hid (grow_block P.out hb)
      replace K := hid (grow_block K.out hb)
      replace S := hid (grow_block S.out hb)
      replace X := hid (grow_block X.out hb)
      clear hb
      go_wp2
      go_ret
      exact ⟨rfl, HB.out⟩
    · have t2 : decide ((20 : Int) < (m : Int)) = false := by simp; omega
      have t3 : decide ((12 : Int) < (k : Int)) = true := by simp; omega
      clear hlg
      go_enter Try.func13, Try.ntmps13
      have HB := hid (grow_refl w)
      apply wp_seq_k; intro _ _; apply wp_region_lit
      refine op_boxC (cs := #[.int .i64 b, .int .i64 h]) rfl rfl rfl rfl ?_
      intro gp w11 hgl hgu hb hr
      have PL := hid (Nat.le_trans HB.out.size hgl)
      replace HB := hid (Grow.trans HB.out hb)
      have P := hid hr; have PU := hid hgu
      clear hr hgl hgu hb
      try simp only [Act.put, List.setIfInBounds_toArray, List.set_cons_zero, List.set_cons_succ]
      refine op_box (l := key) rfl rfl rfl ?_
      intro gk w12 hgl hgu hb hr
      have KL := hid (Nat.le_trans HB.out.size hgl)
      replace HB := hid (Grow.trans HB.out hb)
      replace P := hid (grow_block P.out hb)
      have K := hid hr; have KU := hid hgu
      clear hr hgl hgu hb
      try simp only [Act.put, List.setIfInBounds_toArray, List.set_cons_zero, List.set_cons_succ]
      refine op_box (l := sum) rfl rfl rfl ?_
      intro gs w13 hgl hgu hb hr
      have SL := hid (Nat.le_trans HB.out.size hgl)
      replace HB := hid (Grow.trans HB.out hb)
      replace P := hid (grow_block P.out hb)
      replace K := hid (grow_block K.out hb)
      have S := hid hr; have SU := hid hgu
      clear hr hgl hgu hb
      try simp only [Act.put, List.setIfInBounds_toArray, List.set_cons_zero, List.set_cons_succ]
      refine op_boxC (cs := #[.int .i64 leaf, .slice A n c, .slice B m d, .slice C k e]) rfl rfl rfl rfl ?_
      intro gx w14 hgl hgu hb hr
      have XL := hid (Nat.le_trans HB.out.size hgl)
      replace HB := hid (Grow.trans HB.out hb)
      replace P := hid (grow_block P.out hb)
      replace K := hid (grow_block K.out hb)
      replace S := hid (grow_block S.out hb)
      have X := hid hr; have XU := hid hgu
      clear hr hgl hgu hb
      try simp only [Act.put, List.setIfInBounds_toArray, List.set_cons_zero, List.set_cons_succ]
      have x1 := blk_cell (i := 1) (v := .slice A n c) X.out rfl
      have x2 := blk_cell (i := 2) (v := .slice B m d) X.out rfl
      have x3 := blk_cell (i := 3) (v := .slice C k e) X.out rfl
      go_wp2_with fail
      clear x1 x2 x3
      refine (awake08 _).mono ?_
      rintro e w15 ⟨rfl, hb⟩
      replace HB := hid (Grow.trans HB.out hb)
      replace P := hid (grow_block P.out hb)
      replace K := hid (grow_block K.out hb)
      replace S := hid (grow_block S.out hb)
      replace X := hid (grow_block X.out hb)
      clear hb
      go_wp2
      go_ret
      exact ⟨rfl, HB.out⟩
theorem signerVerifies_bad (b h : Int) (key sum : IdK) (hkl : key.length = 32) (hs : sum.length = 32) (leaf : Int) (hlm : leaf ≤ 9223372036854775807) (A B C : Option Addr) (n m k c d e : Nat) (shown hidden way : List IdK) (w : World) (hA : IdRow w A shown) (hB : IdRow w B hidden) (hC : IdRow w C way) (hn : shown.length = n) (hm : hidden.length = m) (hk : way.length = k) (h1 : ∀ s ∈ shown, s.length = 32) (h2 : ∀ s ∈ hidden, s.length = 32) (h3 : ∀ s ∈ way, s.length = 32) (hlg : ¬ (20 < n ∨ 20 < m ∨ 12 < k)) (hf : fitsB b h leaf n m k = false) :
    Calls Try.prog 13 #[.agg #[.int .i64 b, .int .i64 h], idV key, idV sum, .agg #[.int .i64 leaf, .slice A n c, .slice B m d, .slice C k e]] w fun e w' => e = .returned (.bool true) ∧ Below w.heap.size w w' := by
  have b1 : n ≤ 9223372036854775807 := by rw [← hn]; exact hA.1
  have b2 : m ≤ 9223372036854775807 := by rw [← hm]; exact hB.1
  have b3 : k ≤ 9223372036854775807 := by rw [← hk]; exact hC.1
  have t1 : decide ((20 : Int) < (n : Int)) = false := by simp; omega
  have t2 : decide ((20 : Int) < (m : Int)) = false := by simp; omega
  have t3 : decide ((12 : Int) < (k : Int)) = false := by simp; omega
  have HS := hid hs
  have HK := hid hkl
  have HRB := hid (fun w => sgRoot_bad b h leaf sum hs A B C n m k c d e hf w)
  have HVB := hid (fun w => sgVerify_bad b h leaf key sum hkl hs A B C n m k c d e hf w)
  have HF1 := hid (fun w => sgFits b h leaf A B C n m k c d e w)
  have HF2 := hid (fun w => refFits8 b h leaf A B C n m k c d e w)
  rw [hf] at HF1 HF2
  have hq1 := id_eql_self (zero8 32) rfl
  have hq2 := id_guard .eql (zero8 32) (zero8 32)
  clear hA hB hC hn hm hk h1 h2 h3 hs hkl hlg hf
  go_enter Try.func13, Try.ntmps13
  have HB := hid (grow_refl w)
  apply wp_seq_k; intro _ _; apply wp_region_lit
  refine op_boxC (cs := #[.int .i64 b, .int .i64 h]) rfl rfl rfl rfl ?_
  intro gp w1 hgl hgu hb hr
  have PL := hid (Nat.le_trans HB.out.size hgl)
  replace HB := hid (Grow.trans HB.out hb)
  have P := hid hr; have PU := hid hgu
  clear hr hgl hgu hb
  try simp only [Act.put, List.setIfInBounds_toArray, List.set_cons_zero, List.set_cons_succ]
  refine op_box (l := key) rfl rfl rfl ?_
  intro gk w2 hgl hgu hb hr
  have KL := hid (Nat.le_trans HB.out.size hgl)
  replace HB := hid (Grow.trans HB.out hb)
  replace P := hid (grow_block P.out hb)
  have K := hid hr; have KU := hid hgu
  clear hr hgl hgu hb
  try simp only [Act.put, List.setIfInBounds_toArray, List.set_cons_zero, List.set_cons_succ]
  refine op_box (l := sum) rfl rfl rfl ?_
  intro gs w3 hgl hgu hb hr
  have SL := hid (Nat.le_trans HB.out.size hgl)
  replace HB := hid (Grow.trans HB.out hb)
  replace P := hid (grow_block P.out hb)
  replace K := hid (grow_block K.out hb)
  have S := hid hr; have SU := hid hgu
  clear hr hgl hgu hb
  try simp only [Act.put, List.setIfInBounds_toArray, List.set_cons_zero, List.set_cons_succ]
  refine op_boxC (cs := #[.int .i64 leaf, .slice A n c, .slice B m d, .slice C k e]) rfl rfl rfl rfl ?_
  intro gx w4 hgl hgu hb hr
  have XL := hid (Nat.le_trans HB.out.size hgl)
  replace HB := hid (Grow.trans HB.out hb)
  replace P := hid (grow_block P.out hb)
  replace K := hid (grow_block K.out hb)
  replace S := hid (grow_block S.out hb)
  have X := hid hr; have XU := hid hgu
  clear hr hgl hgu hb
  try simp only [Act.put, List.setIfInBounds_toArray, List.set_cons_zero, List.set_cons_succ]
  go_wp2_with (first | (refine opG_loadB rfl rfl rfl P.out Try.underlying44 rfl rfl ?_) | (refine opG_loadB rfl rfl rfl X.out Try.underlying88 rfl rfl ?_) | (refine opG_load1 rfl rfl rfl X.out rfl Try.underlying24 rfl ?_) | (refine op_loadId rfl rfl rfl S.out (HS.out) ?_) | (refine op_loadId rfl rfl rfl K.out (HK.out) ?_) |  fail)
  refine (HRB.out _).mono ?_
  rintro e w5 ⟨rfl, hb⟩
  replace HB := hid (Grow.trans HB.out hb)
  replace P := hid (grow_block P.out hb)
  replace K := hid (grow_block K.out hb)
  replace S := hid (grow_block S.out hb)
  replace X := hid (grow_block X.out hb)
  clear hb
  go_wp2_with (first | (refine opG_loadB rfl rfl rfl P.out Try.underlying44 rfl rfl ?_) | (refine opG_loadB rfl rfl rfl X.out Try.underlying88 rfl rfl ?_) | (refine opG_load1 rfl rfl rfl X.out rfl Try.underlying24 rfl ?_) | (refine op_loadId rfl rfl rfl S.out (HS.out) ?_) | (refine op_loadId rfl rfl rfl K.out (HK.out) ?_) |  (refine op_allocstore (l := zero8 32) rfl rfl rfl rfl rfl rfl (fun _ => rfl) ⟨fun _ => rfl, rfl⟩ ?_))
  intro g9 w6 hgl hgu hb hr
  have H9L := hid (Nat.le_trans HB.out.size hgl)
  replace HB := hid (Grow.trans HB.out hb)
  replace P := hid (grow_block P.out hb)
  replace K := hid (grow_block K.out hb)
  replace S := hid (grow_block S.out hb)
  replace X := hid (grow_block X.out hb)
  have H9 := hid hr; have H9U := hid hgu
  clear hr hgl hgu hb
  try simp only [Act.put, List.setIfInBounds_toArray, List.set_cons_zero, List.set_cons_succ]
  go_wp2_with (first | (refine opG_loadB rfl rfl rfl P.out Try.underlying44 rfl rfl ?_) | (refine opG_loadB rfl rfl rfl X.out Try.underlying88 rfl rfl ?_) | (refine opG_load1 rfl rfl rfl X.out rfl Try.underlying24 rfl ?_) | (refine op_loadId rfl rfl rfl S.out (HS.out) ?_) | (refine op_loadId rfl rfl rfl K.out (HK.out) ?_) |  fail)
  refine (HVB.out _).mono ?_
  rintro e w7 ⟨rfl, hb⟩
  replace HB := hid (Grow.trans HB.out hb)
  replace P := hid (grow_block P.out hb)
  replace K := hid (grow_block K.out hb)
  replace S := hid (grow_block S.out hb)
  replace X := hid (grow_block X.out hb)
  replace H9 := hid (grow_block H9.out hb)
  clear hb
  go_wp2_with fail
  (refine' wp_region_head 7 0 [_, _, _, _, _, _, _] rfl (by kernel_rfl) (by kernel_rfl) ?hreg1; case' hreg1 => simp only [List.take_succ_cons, List.take_zero, List.zip_cons_cons, List.zip_nil_right, List.drop_succ_cons, List.drop_zero, List.drop_nil])
  (refine' head_loadB rfl ?_ rfl rfl P.out Try.underlying44 rfl rfl ?_; (first | exact fun _ _ _ => trivial | (intro t ht w; cases ht; simp [upE])); try simp only [Act.put, List.setIfInBounds_toArray, List.set_cons_zero, List.set_cons_succ])
  (refine' head_loadB rfl ?_ rfl rfl X.out Try.underlying88 rfl rfl ?_; (first | exact fun _ _ _ => trivial | (intro t ht w; cases ht; simp [upE])); try simp only [Act.put, List.setIfInBounds_toArray, List.set_cons_zero, List.set_cons_succ])
  (refine' head_call ?cw2 ?ce2 ?cr2 ?cc2 ?ch2; (case' cw2 => rfl); (case' ce2 => (first | exact fun _ _ _ => trivial | (intro t ht w; cases ht; simp [upE]))); (case' cr2 => (intro w'; go_simp; first | exact ⟨rfl, rfl⟩ | with_reducible rfl)); (case' cc2 => (intro w' hw' _; exact HF1.out w')); (case' ch2 => (try simp only [Act.put, List.setIfInBounds_toArray, List.set_cons_zero, List.set_cons_succ])))
  (refine' head_loadB rfl ?_ rfl rfl P.out Try.underlying44 rfl rfl ?_; (first | exact fun _ _ _ => trivial | (intro t ht w; cases ht; simp [upE])); try simp only [Act.put, List.setIfInBounds_toArray, List.set_cons_zero, List.set_cons_succ])
  (refine' head_loadB rfl ?_ rfl rfl X.out Try.underlying88 rfl rfl ?_; (first | exact fun _ _ _ => trivial | (intro t ht w; cases ht; simp [upE])); try simp only [Act.put, List.setIfInBounds_toArray, List.set_cons_zero, List.set_cons_succ])
  (refine' head_call ?cw3 ?ce3 ?cr3 ?cc3 ?ch3; (case' cw3 => rfl); (case' ce3 => (first | exact fun _ _ _ => trivial | (intro t ht w; cases ht; simp [upE]))); (case' cr3 => (intro w'; go_simp; first | exact ⟨rfl, rfl⟩ | with_reducible rfl)); (case' cc3 => (intro w' hw' _; exact HF2.out w')); (case' ch3 => (try simp only [Act.put, List.setIfInBounds_toArray, List.set_cons_zero, List.set_cons_succ])))
  (refine' head_val ?dw4 ?de4 ?dr4 ?dh4; (case' dw4 => rfl); (case' de4 => (first | exact fun _ _ _ => trivial | (intro t ht w; cases ht; simp [upE]))); (case' dr4 => (intro w' hw' _; go_simp; with_reducible rfl)); (case' dh4 => (try simp only [Act.put, List.setIfInBounds_toArray, List.set_cons_zero, List.set_cons_succ])))
  refine head_nil ?_
  intro w8 hb _
  replace HB := hid (Grow.trans HB.out hb)
  replace P := hid (grow_block P.out hb)
  replace K := hid (grow_block K.out hb)
  replace S := hid (grow_block S.out hb)
  replace X := hid (grow_block X.out hb)
  replace H9 := hid (grow_block H9.out hb)
  clear hb
  refine wpList_nil ?_
  go_wp2_with (first | (refine opG_loadB rfl rfl rfl P.out Try.underlying44 rfl rfl ?_) | (refine opG_loadB rfl rfl rfl X.out Try.underlying88 rfl rfl ?_) | (refine opG_load1 rfl rfl rfl X.out rfl Try.underlying24 rfl ?_) | (refine op_loadId rfl rfl rfl S.out (HS.out) ?_) | (refine op_loadId rfl rfl rfl K.out (HK.out) ?_) |  fail)
  refine (HF2.out _).mono ?_
  rintro e w9 ⟨rfl, hb⟩
  replace HB := hid (Grow.trans HB.out hb)
  replace P := hid (grow_block P.out hb)
  replace K := hid (grow_block K.out hb)
  replace S := hid (grow_block S.out hb)
  replace X := hid (grow_block X.out hb)
  replace H9 := hid (grow_block H9.out hb)
  clear hb
  go_wp2_with (first | (refine opG_loadId rfl rfl rfl H9.out rfl ?_) | (refine opG_buildId rfl rfl ?_))
  refine (awake08 _).mono ?_
  rintro e w10 ⟨rfl, hb⟩
  replace HB := hid (Grow.trans HB.out hb)
  replace P := hid (grow_block P.out hb)
  replace K := hid (grow_block K.out hb)
  replace S := hid (grow_block S.out hb)
  replace X := hid (grow_block X.out hb)
  replace H9 := hid (grow_block H9.out hb)
  clear hb
  go_wp2
  go_ret
  exact ⟨rfl, HB.out⟩
theorem signerVerifies_good (b h : Int) (key sum : IdK) (hkl : key.length = 32) (hs : sum.length = 32) (leaf : Int) (hlm : leaf ≤ 9223372036854775807) (A B C : Option Addr) (n m k c d e : Nat) (shown hidden way : List IdK) (w : World) (hA : IdRow w A shown) (hB : IdRow w B hidden) (hC : IdRow w C way) (hn : shown.length = n) (hm : hidden.length = m) (hk : way.length = k) (h1 : ∀ s ∈ shown, s.length = 32) (h2 : ∀ s ∈ hidden, s.length = 32) (h3 : ∀ s ∈ way, s.length = 32) (hlg : ¬ (20 < n ∨ 20 < m ∨ 12 < k)) (hf : fitsB b h leaf n m k = true) :
    Calls Try.prog 13 #[.agg #[.int .i64 b, .int .i64 h], idV key, idV sum, .agg #[.int .i64 leaf, .slice A n c, .slice B m d, .slice C k e]] w fun e w' => e = .returned (.bool true) ∧ Below w.heap.size w w' := by
  have b1 : n ≤ 9223372036854775807 := by rw [← hn]; exact hA.1
  have b2 : m ≤ 9223372036854775807 := by rw [← hm]; exact hB.1
  have b3 : k ≤ 9223372036854775807 := by rw [← hk]; exact hC.1
  have t1 : decide ((20 : Int) < (n : Int)) = false := by simp; omega
  have t2 : decide ((20 : Int) < (m : Int)) = false := by simp; omega
  have t3 : decide ((12 : Int) < (k : Int)) = false := by simp; omega
  have HS := hid hs
  have HK := hid hkl
  obtain ⟨hkt, f0, f1, f2, f3, f4⟩ := fits_spec hf
  obtain ⟨q1, q2, q3, q4⟩ := kt_bounds hkt
  obtain ⟨b, rfl⟩ : ∃ n : Nat, b = (n : Int) := ⟨b.toNat, by omega⟩
  obtain ⟨h, rfl⟩ : ∃ n : Nat, h = (n : Int) := ⟨h.toNat, by omega⟩
  have RA := hid hA
  have RB := hid hB
  have RC := hid hC
  have HRG := hid (fun w (hA : IdRow w A shown) (hB : IdRow w B hidden) (hC : IdRow w C way) => sgRoot b h leaf sum hs w A B C n m k c d e shown hidden way hA hB hC hn hm hk h1 h2 h3 hf)
  have HVG := hid (fun w (hA : IdRow w A shown) (hB : IdRow w B hidden) (hC : IdRow w C way) => sgVerify b h leaf key sum hkl hs w A B C n m k c d e shown hidden way hA hB hC hn hm hk h1 h2 h3 hf)
  have HK8 := hid (fun w (hA : IdRow w A shown) (hB : IdRow w B hidden) (hC : IdRow w C way) => refKey8 b h leaf sum hs w A B C n m k c d e shown hidden way hA hB hC hn hm hk h1 h2 h3 hf)
  have HF1 := hid (fun w => sgFits b h leaf A B C n m k c d e w)
  have HF2 := hid (fun w => refFits8 b h leaf A B C n m k c d e w)
  rw [hf] at HF1 HF2
  have LR := hid (rootOf_length sum leaf shown hidden way)
  have HK7 := hid (fun w => refKey7 b h (rootOf sum leaf shown hidden way) LR.out (by omega) (by omega) w)
  have LK1 := hid (keyOf_length b h (rootOf sum leaf shown hidden way))
  have HVE := hid (show ∀ k, verErr b h k sum leaf shown hidden way = if keyOf b h (rootOf sum leaf shown hidden way) == k then 0 else 9 from fun k => rfl)
  have HVK := hid (fun w (hA : IdRow w A shown) (hB : IdRow w B hidden) (hC : IdRow w C way) => sgVerify b h leaf (keyOf b h (rootOf sum leaf shown hidden way)) sum LK1.out hs w A B C n m k c d e shown hidden way hA hB hC hn hm hk h1 h2 h3 hf)
  rw [HVE.out, beq_self_eq_true, if_pos rfl] at HVK
  rw [HVE.out] at HVG
  generalize rootOf sum leaf shown hidden way = ro at *
  generalize keyOf b h ro = k1 at *
  have hq1 := id_eql_self k1 LK1.out
  have hq2 := id_guard .eql k1 k1
  have hq3 := fun w => id_eql k1 key LK1.out HK.out w
  have hq4 := id_guard .eql k1 key
  clear hA hB hC hn hm hk h1 h2 h3 hs hkl hlg hf hkt f0 f1 f2 f3 f4 q1 q2 q3 q4 HVE
  cases hc : (k1 == key) with
  | true =>
    rw [hc] at hq3 HVG
    clear hc
    go_enter Try.func13, Try.ntmps13
    have HB := hid (grow_refl w)
    apply wp_seq_k; intro _ _; apply wp_region_lit
    refine op_boxC (cs := #[.int .i64 (b : Int), .int .i64 (h : Int)]) rfl rfl rfl rfl ?_
    intro gp w1 hgl hgu hb hr
    have PL := hid (Nat.le_trans HB.out.size hgl)
    replace HB := hid (Grow.trans HB.out hb)
    replace RA := hid (RA.out.grow hb)
    replace RB := hid (RB.out.grow hb)
    replace RC := hid (RC.out.grow hb)
    have P := hid hr; have PU := hid hgu
    clear hr hgl hgu hb
    try simp only [Act.put, List.setIfInBounds_toArray, List.set_cons_zero, List.set_cons_succ]
    refine op_box (l := key) rfl rfl rfl ?_
    intro gk w2 hgl hgu hb hr
    have KL := hid (Nat.le_trans HB.out.size hgl)
    replace HB := hid (Grow.trans HB.out hb)
    replace RA := hid (RA.out.grow hb)
    replace RB := hid (RB.out.grow hb)
    replace RC := hid (RC.out.grow hb)
    replace P := hid (grow_block P.out hb)
    have K := hid hr; have KU := hid hgu
    clear hr hgl hgu hb
    try simp only [Act.put, List.setIfInBounds_toArray, List.set_cons_zero, List.set_cons_succ]
    refine op_box (l := sum) rfl rfl rfl ?_
    intro gs w3 hgl hgu hb hr
    have SL := hid (Nat.le_trans HB.out.size hgl)
    replace HB := hid (Grow.trans HB.out hb)
    replace RA := hid (RA.out.grow hb)
    replace RB := hid (RB.out.grow hb)
    replace RC := hid (RC.out.grow hb)
    replace P := hid (grow_block P.out hb)
    replace K := hid (grow_block K.out hb)
    have S := hid hr; have SU := hid hgu
    clear hr hgl hgu hb
    try simp only [Act.put, List.setIfInBounds_toArray, List.set_cons_zero, List.set_cons_succ]
    refine op_boxC (cs := #[.int .i64 leaf, .slice A n c, .slice B m d, .slice C k e]) rfl rfl rfl rfl ?_
    intro gx w4 hgl hgu hb hr
    have XL := hid (Nat.le_trans HB.out.size hgl)
    replace HB := hid (Grow.trans HB.out hb)
    replace RA := hid (RA.out.grow hb)
    replace RB := hid (RB.out.grow hb)
    replace RC := hid (RC.out.grow hb)
    replace P := hid (grow_block P.out hb)
    replace K := hid (grow_block K.out hb)
    replace S := hid (grow_block S.out hb)
    have X := hid hr; have XU := hid hgu
    clear hr hgl hgu hb
    try simp only [Act.put, List.setIfInBounds_toArray, List.set_cons_zero, List.set_cons_succ]
    go_wp2_with (first | (refine opG_loadB rfl rfl rfl P.out Try.underlying44 rfl rfl ?_) | (refine opG_loadB rfl rfl rfl X.out Try.underlying88 rfl rfl ?_) | (refine opG_load1 rfl rfl rfl X.out rfl Try.underlying24 rfl ?_) | (refine op_loadId rfl rfl rfl S.out (HS.out) ?_) | (refine op_loadId rfl rfl rfl K.out (HK.out) ?_) |  fail)
    refine (HRG.out _ RA.out RB.out RC.out).mono ?_
    rintro e w5 ⟨rfl, hb⟩
    replace HB := hid (Grow.trans HB.out hb)
    replace RA := hid (RA.out.grow hb)
    replace RB := hid (RB.out.grow hb)
    replace RC := hid (RC.out.grow hb)
    replace P := hid (grow_block P.out hb)
    replace K := hid (grow_block K.out hb)
    replace S := hid (grow_block S.out hb)
    replace X := hid (grow_block X.out hb)
    clear hb
    go_wp2_with (first | (refine opG_loadB rfl rfl rfl P.out Try.underlying44 rfl rfl ?_) | (refine opG_loadB rfl rfl rfl X.out Try.underlying88 rfl rfl ?_) | (refine opG_load1 rfl rfl rfl X.out rfl Try.underlying24 rfl ?_) | (refine op_loadId rfl rfl rfl S.out (HS.out) ?_) | (refine op_loadId rfl rfl rfl K.out (HK.out) ?_) |  (refine op_allocstore (l := ro) rfl rfl rfl rfl rfl rfl (fun _ => rfl) ⟨fun _ => rfl, LR.out⟩ ?_))
    intro g9 w6 hgl hgu hb hr
    have H9L := hid (Nat.le_trans HB.out.size hgl)
    replace HB := hid (Grow.trans HB.out hb)
    replace RA := hid (RA.out.grow hb)
    replace RB := hid (RB.out.grow hb)
    replace RC := hid (RC.out.grow hb)
    replace P := hid (grow_block P.out hb)
    replace K := hid (grow_block K.out hb)
    replace S := hid (grow_block S.out hb)
    replace X := hid (grow_block X.out hb)
    have H9 := hid hr; have H9U := hid hgu
    clear hr hgl hgu hb
    try simp only [Act.put, List.setIfInBounds_toArray, List.set_cons_zero, List.set_cons_succ]
    go_wp2_with (first | (refine opG_loadB rfl rfl rfl P.out Try.underlying44 rfl rfl ?_) | (refine opG_loadB rfl rfl rfl X.out Try.underlying88 rfl rfl ?_) | (refine opG_load1 rfl rfl rfl X.out rfl Try.underlying24 rfl ?_) | (refine op_loadId rfl rfl rfl S.out (HS.out) ?_) | (refine op_loadId rfl rfl rfl K.out (HK.out) ?_) |  fail)
    refine (HVG.out _ RA.out RB.out RC.out).mono ?_
    rintro e w7 ⟨rfl, hb⟩
    replace HB := hid (Grow.trans HB.out hb)
    replace RA := hid (RA.out.grow hb)
    replace RB := hid (RB.out.grow hb)
    replace RC := hid (RC.out.grow hb)
    replace P := hid (grow_block P.out hb)
    replace K := hid (grow_block K.out hb)
    replace S := hid (grow_block S.out hb)
    replace X := hid (grow_block X.out hb)
    replace H9 := hid (grow_block H9.out hb)
    clear hb
    go_wp2_with fail
    (refine' wp_region_head 7 0 [_, _, _, _, _, _, _] rfl (by kernel_rfl) (by kernel_rfl) ?hreg5; case' hreg5 => simp only [List.take_succ_cons, List.take_zero, List.zip_cons_cons, List.zip_nil_right, List.drop_succ_cons, List.drop_zero, List.drop_nil])
    (refine' head_loadB rfl ?_ rfl rfl P.out Try.underlying44 rfl rfl ?_; (first | exact fun _ _ _ => trivial | (intro t ht w; cases ht; simp [upE])); try simp only [Act.put, List.setIfInBounds_toArray, List.set_cons_zero, List.set_cons_succ])
    (refine' head_loadB rfl ?_ rfl rfl X.out Try.underlying88 rfl rfl ?_; (first | exact fun _ _ _ => trivial | (intro t ht w; cases ht; simp [upE])); try simp only [Act.put, List.setIfInBounds_toArray, List.set_cons_zero, List.set_cons_succ])
    (refine' head_call ?cw6 ?ce6 ?cr6 ?cc6 ?ch6; (case' cw6 => rfl); (case' ce6 => (first | exact fun _ _ _ => trivial | (intro t ht w; cases ht; simp [upE]))); (case' cr6 => (intro w'; go_simp; first | exact ⟨rfl, rfl⟩ | with_reducible rfl)); (case' cc6 => (intro w' hw' _; exact HF1.out w')); (case' ch6 => (try simp only [Act.put, List.setIfInBounds_toArray, List.set_cons_zero, List.set_cons_succ])))
    (refine' head_loadB rfl ?_ rfl rfl P.out Try.underlying44 rfl rfl ?_; (first | exact fun _ _ _ => trivial | (intro t ht w; cases ht; simp [upE])); try simp only [Act.put, List.setIfInBounds_toArray, List.set_cons_zero, List.set_cons_succ])
    (refine' head_loadB rfl ?_ rfl rfl X.out Try.underlying88 rfl rfl ?_; (first | exact fun _ _ _ => trivial | (intro t ht w; cases ht; simp [upE])); try simp only [Act.put, List.setIfInBounds_toArray, List.set_cons_zero, List.set_cons_succ])
    (refine' head_call ?cw7 ?ce7 ?cr7 ?cc7 ?ch7; (case' cw7 => rfl); (case' ce7 => (first | exact fun _ _ _ => trivial | (intro t ht w; cases ht; simp [upE]))); (case' cr7 => (intro w'; go_simp; first | exact ⟨rfl, rfl⟩ | with_reducible rfl)); (case' cc7 => (intro w' hw' _; exact HF2.out w')); (case' ch7 => (try simp only [Act.put, List.setIfInBounds_toArray, List.set_cons_zero, List.set_cons_succ])))
    (refine' head_val ?dw8 ?de8 ?dr8 ?dh8; (case' dw8 => rfl); (case' de8 => (first | exact fun _ _ _ => trivial | (intro t ht w; cases ht; simp [upE]))); (case' dr8 => (intro w' hw' _; go_simp; with_reducible rfl)); (case' dh8 => (try simp only [Act.put, List.setIfInBounds_toArray, List.set_cons_zero, List.set_cons_succ])))
    refine head_nil ?_
    intro w8 hb _
    replace HB := hid (Grow.trans HB.out hb)
    replace RA := hid (RA.out.grow hb)
    replace RB := hid (RB.out.grow hb)
    replace RC := hid (RC.out.grow hb)
    replace P := hid (grow_block P.out hb)
    replace K := hid (grow_block K.out hb)
    replace S := hid (grow_block S.out hb)
    replace X := hid (grow_block X.out hb)
    replace H9 := hid (grow_block H9.out hb)
    clear hb
    refine wpList_nil ?_
    go_wp2_with (first | (refine opG_loadB rfl rfl rfl P.out Try.underlying44 rfl rfl ?_) | (refine opG_loadB rfl rfl rfl X.out Try.underlying88 rfl rfl ?_) | (refine opG_load1 rfl rfl rfl X.out rfl Try.underlying24 rfl ?_) | (refine op_loadId rfl rfl rfl S.out (HS.out) ?_) | (refine op_loadId rfl rfl rfl K.out (HK.out) ?_) |  fail)
    refine (HF2.out _).mono ?_
    rintro e w9 ⟨rfl, hb⟩
    replace HB := hid (Grow.trans HB.out hb)
    replace RA := hid (RA.out.grow hb)
    replace RB := hid (RB.out.grow hb)
    replace RC := hid (RC.out.grow hb)
    replace P := hid (grow_block P.out hb)
    replace K := hid (grow_block K.out hb)
    replace S := hid (grow_block S.out hb)
    replace X := hid (grow_block X.out hb)
    replace H9 := hid (grow_block H9.out hb)
    clear hb
    go_wp2_with (first | (refine opG_loadB rfl rfl rfl P.out Try.underlying44 rfl rfl ?_) | (refine opG_loadB rfl rfl rfl X.out Try.underlying88 rfl rfl ?_) | (refine opG_load1 rfl rfl rfl X.out rfl Try.underlying24 rfl ?_) | (refine op_loadId rfl rfl rfl S.out (HS.out) ?_) | (refine op_loadId rfl rfl rfl K.out (HK.out) ?_) |  fail)
    refine (HK8.out _ RA.out RB.out RC.out).mono ?_
    rintro e w10 ⟨rfl, hb⟩
    replace HB := hid (Grow.trans HB.out hb)
    replace RA := hid (RA.out.grow hb)
    replace RB := hid (RB.out.grow hb)
    replace RC := hid (RC.out.grow hb)
    replace P := hid (grow_block P.out hb)
    replace K := hid (grow_block K.out hb)
    replace S := hid (grow_block S.out hb)
    replace X := hid (grow_block X.out hb)
    replace H9 := hid (grow_block H9.out hb)
    clear hb
    go_wp2_with (first | (refine opG_loadB rfl rfl rfl P.out Try.underlying44 rfl rfl ?_) | (refine opG_loadB rfl rfl rfl X.out Try.underlying88 rfl rfl ?_) | (refine opG_load1 rfl rfl rfl X.out rfl Try.underlying24 rfl ?_) | (refine op_loadId rfl rfl rfl S.out (HS.out) ?_) | (refine op_loadId rfl rfl rfl K.out (HK.out) ?_) |  (refine op_allocstore (l := k1) rfl rfl rfl rfl rfl rfl (fun _ => rfl) ⟨fun _ => rfl, LK1.out⟩ ?_))
    intro g12 w11 hgl hgu hb hr
    have H12L := hid (Nat.le_trans HB.out.size hgl)
    replace HB := hid (Grow.trans HB.out hb)
    replace RA := hid (RA.out.grow hb)
    replace RB := hid (RB.out.grow hb)
    replace RC := hid (RC.out.grow hb)
    replace P := hid (grow_block P.out hb)
    replace K := hid (grow_block K.out hb)
    replace S := hid (grow_block S.out hb)
    replace X := hid (grow_block X.out hb)
    replace H9 := hid (grow_block H9.out hb)
    have H12 := hid hr; have H12U := hid hgu
    clear hr hgl hgu hb
    try simp only [Act.put, List.setIfInBounds_toArray, List.set_cons_zero, List.set_cons_succ]
    go_wp2_with fail
    (refine' wp_region_head 37 0 [_, _, _, _, _, _, _, _, _, _, _, _, _, _, _, _, _, _, _, _, _, _, _, _, _, _, _, _, _, _, _, _, _, _, _, _, _] rfl (by kernel_rfl) (by kernel_rfl) ?hreg9; case' hreg9 => simp only [List.take_succ_cons, List.take_zero, List.zip_cons_cons, List.zip_nil_right, List.drop_succ_cons, List.drop_zero, List.drop_nil])
    (refine' head_val ?dw10 ?de10 ?dr10 ?dh10; (case' dw10 => rfl); (case' de10 => (first | exact fun _ _ _ => trivial | (intro t ht w; cases ht; simp [upE]))); (case' dr10 => (intro w' hw' _; go_simp; with_reducible rfl)); (case' dh10 => (try simp only [Act.put, List.setIfInBounds_toArray, List.set_cons_zero, List.set_cons_succ]))); (refine' head_val ?dw11 ?de11 ?dr11 ?dh11; (case' dw11 => rfl); (case' de11 => (first | exact fun _ _ _ => trivial | (intro t ht w; cases ht; simp [upE]))); (case' dr11 => (intro w' hw' _; go_simp; with_reducible rfl)); (case' dh11 => (try simp only [Act.put, List.setIfInBounds_toArray, List.set_cons_zero, List.set_cons_succ]))); (refine' head_val ?dw12 ?de12 ?dr12 ?dh12; (case' dw12 => rfl); (case' de12 => (first | exact fun _ _ _ => trivial | (intro t ht w; cases ht; simp [upE]))); (case' dr12 => (intro w' hw' _; go_simp; with_reducible rfl)); (case' dh12 => (try simp only [Act.put, List.setIfInBounds_toArray, List.set_cons_zero, List.set_cons_succ])))
    (refine' head_loadB rfl ?_ rfl rfl P.out Try.underlying44 rfl rfl ?_; (first | exact fun _ _ _ => trivial | (intro t ht w; cases ht; simp [upE])); try simp only [Act.put, List.setIfInBounds_toArray, List.set_cons_zero, List.set_cons_succ])
    (refine' head_loadId (x := _) rfl ?_ rfl rfl H9.out (LR.out) ?_; (first | exact fun _ _ _ => trivial | (intro t ht w; cases ht; simp [upE])); try simp only [Act.put, List.setIfInBounds_toArray, List.set_cons_zero, List.set_cons_succ])
    (refine' head_call ?cw13 ?ce13 ?cr13 ?cc13 ?ch13; (case' cw13 => rfl); (case' ce13 => (first | exact fun _ _ _ => trivial | (intro t ht w; cases ht; simp [upE]))); (case' cr13 => (intro w'; go_simp; first | exact ⟨rfl, rfl⟩ | with_reducible rfl)); (case' cc13 => (intro w' hw' _; exact HK7.out w')); (case' ch13 => (try simp only [Act.put, List.setIfInBounds_toArray, List.set_cons_zero, List.set_cons_succ])))
    (refine' head_loadId (x := _) rfl ?_ rfl rfl H12.out (LK1.out) ?_; (first | exact fun _ _ _ => trivial | (intro t ht w; cases ht; simp [upE])); try simp only [Act.put, List.setIfInBounds_toArray, List.set_cons_zero, List.set_cons_succ])
    (refine' head_val ?dw14 ?de14 ?dr14 ?dh14; (case' dw14 => rfl); (case' de14 => (first | exact fun _ _ _ => trivial | (intro t ht w; cases ht; simp [upE]))); (case' dr14 => (intro w' hw' _; go_simp; with_reducible rfl)); (case' dh14 => (try simp only [Act.put, List.setIfInBounds_toArray, List.set_cons_zero, List.set_cons_succ]))); (refine' head_val ?dw15 ?de15 ?dr15 ?dh15; (case' dw15 => rfl); (case' de15 => (first | exact fun _ _ _ => trivial | (intro t ht w; cases ht; simp [upE]))); (case' dr15 => (intro w' hw' _; go_simp; with_reducible rfl)); (case' dh15 => (try simp only [Act.put, List.setIfInBounds_toArray, List.set_cons_zero, List.set_cons_succ]))); (refine' head_val ?dw16 ?de16 ?dr16 ?dh16; (case' dw16 => rfl); (case' de16 => (first | exact fun _ _ _ => trivial | (intro t ht w; cases ht; simp [upE]))); (case' dr16 => (intro w' hw' _; go_simp; with_reducible rfl)); (case' dh16 => (try simp only [Act.put, List.setIfInBounds_toArray, List.set_cons_zero, List.set_cons_succ]))); (refine' head_val ?dw17 ?de17 ?dr17 ?dh17; (case' dw17 => rfl); (case' de17 => (first | exact fun _ _ _ => trivial | (intro t ht w; cases ht; simp [upE]))); (case' dr17 => (intro w' hw' _; go_simp; with_reducible rfl)); (case' dh17 => (try simp only [Act.put, List.setIfInBounds_toArray, List.set_cons_zero, List.set_cons_succ]))); (refine' head_val ?dw18 ?de18 ?dr18 ?dh18; (case' dw18 => rfl); (case' de18 => (first | exact fun _ _ _ => trivial | (intro t ht w; cases ht; simp [upE]))); (case' dr18 => (intro w' hw' _; go_simp; with_reducible rfl)); (case' dh18 => (try simp only [Act.put, List.setIfInBounds_toArray, List.set_cons_zero, List.set_cons_succ])))
    (refine' head_loadId (x := _) rfl ?_ rfl rfl H12.out (LK1.out) ?_; (first | exact fun _ _ _ => trivial | (intro t ht w; cases ht; simp [upE])); try simp only [Act.put, List.setIfInBounds_toArray, List.set_cons_zero, List.set_cons_succ])
    (refine' head_loadId (x := _) rfl ?_ rfl rfl K.out (HK.out) ?_; (first | exact fun _ _ _ => trivial | (intro t ht w; cases ht; simp [upE])); try simp only [Act.put, List.setIfInBounds_toArray, List.set_cons_zero, List.set_cons_succ])
    (refine' head_val ?dw19 ?de19 ?dr19 ?dh19; (case' dw19 => rfl); (case' de19 => (first | exact fun _ _ _ => trivial | (intro t ht w; cases ht; simp [upE]))); (case' dr19 => (intro w' hw' _; go_simp; with_reducible rfl)); (case' dh19 => (try simp only [Act.put, List.setIfInBounds_toArray, List.set_cons_zero, List.set_cons_succ]))); (refine' head_val ?dw20 ?de20 ?dr20 ?dh20; (case' dw20 => rfl); (case' de20 => (first | exact fun _ _ _ => trivial | (intro t ht w; cases ht; simp [upE]))); (case' dr20 => (intro w' hw' _; go_simp; with_reducible rfl)); (case' dh20 => (try simp only [Act.put, List.setIfInBounds_toArray, List.set_cons_zero, List.set_cons_succ]))); (refine' head_val ?dw21 ?de21 ?dr21 ?dh21; (case' dw21 => rfl); (case' de21 => (first | exact fun _ _ _ => trivial | (intro t ht w; cases ht; simp [upE]))); (case' dr21 => (intro w' hw' _; go_simp; with_reducible rfl)); (case' dh21 => (try simp only [Act.put, List.setIfInBounds_toArray, List.set_cons_zero, List.set_cons_succ]))); (refine' head_val ?dw22 ?de22 ?dr22 ?dh22; (case' dw22 => rfl); (case' de22 => (first | exact fun _ _ _ => trivial | (intro t ht w; cases ht; simp [upE]))); (case' dr22 => (intro w' hw' _; go_simp; with_reducible rfl)); (case' dh22 => (try simp only [Act.put, List.setIfInBounds_toArray, List.set_cons_zero, List.set_cons_succ]))); (refine' head_val ?dw23 ?de23 ?dr23 ?dh23; (case' dw23 => rfl); (case' de23 => (first | exact fun _ _ _ => trivial | (intro t ht w; cases ht; simp [upE]))); (case' dr23 => (intro w' hw' _; go_simp; with_reducible rfl)); (case' dh23 => (try simp only [Act.put, List.setIfInBounds_toArray, List.set_cons_zero, List.set_cons_succ]))); (refine' head_val ?dw24 ?de24 ?dr24 ?dh24; (case' dw24 => rfl); (case' de24 => (first | exact fun _ _ _ => trivial | (intro t ht w; cases ht; simp [upE]))); (case' dr24 => (intro w' hw' _; go_simp; with_reducible rfl)); (case' dh24 => (try simp only [Act.put, List.setIfInBounds_toArray, List.set_cons_zero, List.set_cons_succ]))); (refine' head_val ?dw25 ?de25 ?dr25 ?dh25; (case' dw25 => rfl); (case' de25 => (first | exact fun _ _ _ => trivial | (intro t ht w; cases ht; simp [upE]))); (case' dr25 => (intro w' hw' _; go_simp; with_reducible rfl)); (case' dh25 => (try simp only [Act.put, List.setIfInBounds_toArray, List.set_cons_zero, List.set_cons_succ])))
    (refine' head_skip (V := fun _ _ => True) ?sw26 ?se26 ?sh26; (case' sw26 => rfl); (case' se26 => (first | exact fun _ _ _ => trivial | (intro t ht w; cases ht; simp [upE]))); (case' sh26 => (try simp only [Act.put, List.setIfInBounds_toArray, List.set_cons_zero, List.set_cons_succ]))); (refine' head_skip (V := fun _ _ => True) ?sw27 ?se27 ?sh27; (case' sw27 => rfl); (case' se27 => (first | exact fun _ _ _ => trivial | (intro t ht w; cases ht; simp [upE]))); (case' sh27 => (try simp only [Act.put, List.setIfInBounds_toArray, List.set_cons_zero, List.set_cons_succ])))
    (refine' head_val ?dw28 ?de28 ?dr28 ?dh28; (case' dw28 => rfl); (case' de28 => (first | exact fun _ _ _ => trivial | (intro t ht w; cases ht; simp [upE]))); (case' dr28 => (intro w' hw' _; go_simp; with_reducible rfl)); (case' dh28 => (try simp only [Act.put, List.setIfInBounds_toArray, List.set_cons_zero, List.set_cons_succ]))); (refine' head_val ?dw29 ?de29 ?dr29 ?dh29; (case' dw29 => rfl); (case' de29 => (first | exact fun _ _ _ => trivial | (intro t ht w; cases ht; simp [upE]))); (case' dr29 => (intro w' hw' _; go_simp; with_reducible rfl)); (case' dh29 => (try simp only [Act.put, List.setIfInBounds_toArray, List.set_cons_zero, List.set_cons_succ]))); (refine' head_val ?dw30 ?de30 ?dr30 ?dh30; (case' dw30 => rfl); (case' de30 => (first | exact fun _ _ _ => trivial | (intro t ht w; cases ht; simp [upE]))); (case' dr30 => (intro w' hw' _; go_simp; with_reducible rfl)); (case' dh30 => (try simp only [Act.put, List.setIfInBounds_toArray, List.set_cons_zero, List.set_cons_succ])))
    (refine' head_loadB rfl ?_ rfl rfl P.out Try.underlying44 rfl rfl ?_; (first | exact fun _ _ _ => trivial | (intro t ht w; cases ht; simp [upE])); try simp only [Act.put, List.setIfInBounds_toArray, List.set_cons_zero, List.set_cons_succ])
    (refine' head_loadId (x := _) rfl ?_ rfl rfl H12.out (LK1.out) ?_; (first | exact fun _ _ _ => trivial | (intro t ht w; cases ht; simp [upE])); try simp only [Act.put, List.setIfInBounds_toArray, List.set_cons_zero, List.set_cons_succ])
    (refine' head_loadId (x := _) rfl ?_ rfl rfl S.out (HS.out) ?_; (first | exact fun _ _ _ => trivial | (intro t ht w; cases ht; simp [upE])); try simp only [Act.put, List.setIfInBounds_toArray, List.set_cons_zero, List.set_cons_succ])
    (refine' head_loadB rfl ?_ rfl rfl X.out Try.underlying88 rfl rfl ?_; (first | exact fun _ _ _ => trivial | (intro t ht w; cases ht; simp [upE])); try simp only [Act.put, List.setIfInBounds_toArray, List.set_cons_zero, List.set_cons_succ])
    (refine' head_call ?cw31 ?ce31 ?cr31 ?cc31 ?ch31; (case' cw31 => rfl); (case' ce31 => (first | exact fun _ _ _ => trivial | (intro t ht w; cases ht; simp [upE]))); (case' cr31 => (intro w'; go_simp; first | exact ⟨rfl, rfl⟩ | with_reducible rfl)); (case' cc31 => (intro w' hw' _; exact HVK.out w' (RA.out.grow hw') (RB.out.grow hw') (RC.out.grow hw'))); (case' ch31 => (try simp only [Act.put, List.setIfInBounds_toArray, List.set_cons_zero, List.set_cons_succ])))
    (refine' head_val ?dw32 ?de32 ?dr32 ?dh32; (case' dw32 => rfl); (case' de32 => (first | exact fun _ _ _ => trivial | (intro t ht w; cases ht; simp [upE]))); (case' dr32 => (intro w' hw' _; go_simp; with_reducible rfl)); (case' dh32 => (try simp only [Act.put, List.setIfInBounds_toArray, List.set_cons_zero, List.set_cons_succ]))); (refine' head_val ?dw33 ?de33 ?dr33 ?dh33; (case' dw33 => rfl); (case' de33 => (first | exact fun _ _ _ => trivial | (intro t ht w; cases ht; simp [upE]))); (case' dr33 => (intro w' hw' _; go_simp; with_reducible rfl)); (case' dh33 => (try simp only [Act.put, List.setIfInBounds_toArray, List.set_cons_zero, List.set_cons_succ]))); (refine' head_val ?dw34 ?de34 ?dr34 ?dh34; (case' dw34 => rfl); (case' de34 => (first | exact fun _ _ _ => trivial | (intro t ht w; cases ht; simp [upE]))); (case' dr34 => (intro w' hw' _; go_simp; with_reducible rfl)); (case' dh34 => (try simp only [Act.put, List.setIfInBounds_toArray, List.set_cons_zero, List.set_cons_succ])))
    (refine' head_call ?cw35 ?ce35 ?cr35 ?cc35 ?ch35; (case' cw35 => rfl); (case' ce35 => (first | exact fun _ _ _ => trivial | (intro t ht w; cases ht; simp [upE]))); (case' cr35 => (intro w'; go_simp; first | exact ⟨rfl, rfl⟩ | with_reducible rfl)); (case' cc35 => (intro w' hw' _; exact awake08 w')); (case' ch35 => (try simp only [Act.put, List.setIfInBounds_toArray, List.set_cons_zero, List.set_cons_succ])))
    (refine' head_val ?dw36 ?de36 ?dr36 ?dh36; (case' dw36 => rfl); (case' de36 => (first | exact fun _ _ _ => trivial | (intro t ht w; cases ht; simp [upE]))); (case' dr36 => (intro w' hw' _; go_simp; with_reducible rfl)); (case' dh36 => (try simp only [Act.put, List.setIfInBounds_toArray, List.set_cons_zero, List.set_cons_succ]))); (refine' head_val ?dw37 ?de37 ?dr37 ?dh37; (case' dw37 => rfl); (case' de37 => (first | exact fun _ _ _ => trivial | (intro t ht w; cases ht; simp [upE]))); (case' dr37 => (intro w' hw' _; go_simp; with_reducible rfl)); (case' dh37 => (try simp only [Act.put, List.setIfInBounds_toArray, List.set_cons_zero, List.set_cons_succ])))
    refine head_nil ?_
    intro w12 hb _
    replace HB := hid (Grow.trans HB.out hb)
    replace RA := hid (RA.out.grow hb)
    replace RB := hid (RB.out.grow hb)
    replace RC := hid (RC.out.grow hb)
    replace P := hid (grow_block P.out hb)
    replace K := hid (grow_block K.out hb)
    replace S := hid (grow_block S.out hb)
    replace X := hid (grow_block X.out hb)
    replace H9 := hid (grow_block H9.out hb)
    replace H12 := hid (grow_block H12.out hb)
    clear hb
    refine wpList_nil ?_
    clear hq1 hq2 hq3 hq4
    go_wp2_with fail
    go_ret
    exact ⟨rfl, HB.out⟩
  | false =>
    rw [hc] at hq3 HVG
    clear hc
    go_enter Try.func13, Try.ntmps13
    have HB := hid (grow_refl w)
    apply wp_seq_k; intro _ _; apply wp_region_lit
    refine op_boxC (cs := #[.int .i64 (b : Int), .int .i64 (h : Int)]) rfl rfl rfl rfl ?_
    intro gp w13 hgl hgu hb hr
    have PL := hid (Nat.le_trans HB.out.size hgl)
    replace HB := hid (Grow.trans HB.out hb)
    replace RA := hid (RA.out.grow hb)
    replace RB := hid (RB.out.grow hb)
    replace RC := hid (RC.out.grow hb)
    have P := hid hr; have PU := hid hgu
    clear hr hgl hgu hb
    try simp only [Act.put, List.setIfInBounds_toArray, List.set_cons_zero, List.set_cons_succ]
    refine op_box (l := key) rfl rfl rfl ?_
    intro gk w14 hgl hgu hb hr
    have KL := hid (Nat.le_trans HB.out.size hgl)
    replace HB := hid (Grow.trans HB.out hb)
    replace RA := hid (RA.out.grow hb)
    replace RB := hid (RB.out.grow hb)
    replace RC := hid (RC.out.grow hb)
    replace P := hid (grow_block P.out hb)
    have K := hid hr; have KU := hid hgu
    clear hr hgl hgu hb
    try simp only [Act.put, List.setIfInBounds_toArray, List.set_cons_zero, List.set_cons_succ]
    refine op_box (l := sum) rfl rfl rfl ?_
    intro gs w15 hgl hgu hb hr
    have SL := hid (Nat.le_trans HB.out.size hgl)
    replace HB := hid (Grow.trans HB.out hb)
    replace RA := hid (RA.out.grow hb)
    replace RB := hid (RB.out.grow hb)
    replace RC := hid (RC.out.grow hb)
    replace P := hid (grow_block P.out hb)
    replace K := hid (grow_block K.out hb)
    have S := hid hr; have SU := hid hgu
    clear hr hgl hgu hb
    try simp only [Act.put, List.setIfInBounds_toArray, List.set_cons_zero, List.set_cons_succ]
    refine op_boxC (cs := #[.int .i64 leaf, .slice A n c, .slice B m d, .slice C k e]) rfl rfl rfl rfl ?_
    intro gx w16 hgl hgu hb hr
    have XL := hid (Nat.le_trans HB.out.size hgl)
    replace HB := hid (Grow.trans HB.out hb)
    replace RA := hid (RA.out.grow hb)
    replace RB := hid (RB.out.grow hb)
    replace RC := hid (RC.out.grow hb)
    replace P := hid (grow_block P.out hb)
    replace K := hid (grow_block K.out hb)
    replace S := hid (grow_block S.out hb)
    have X := hid hr; have XU := hid hgu
    clear hr hgl hgu hb
    try simp only [Act.put, List.setIfInBounds_toArray, List.set_cons_zero, List.set_cons_succ]
    go_wp2_with (first | (refine opG_loadB rfl rfl rfl P.out Try.underlying44 rfl rfl ?_) | (refine opG_loadB rfl rfl rfl X.out Try.underlying88 rfl rfl ?_) | (refine opG_load1 rfl rfl rfl X.out rfl Try.underlying24 rfl ?_) | (refine opG_loadB rfl rfl rfl P.out Try.underlying44 rfl rfl ?_) | (refine opG_loadB rfl rfl rfl X.out Try.underlying88 rfl rfl ?_) | (refine opG_load1 rfl rfl rfl X.out rfl Try.underlying24 rfl ?_) | (refine op_loadId rfl rfl rfl S.out (HS.out) ?_) | (refine op_loadId rfl rfl rfl K.out (HK.out) ?_) |  fail)
    refine (HRG.out _ RA.out RB.out RC.out).mono ?_
    rintro e w17 ⟨rfl, hb⟩
    replace HB := hid (Grow.trans HB.out hb)
    replace RA := hid (RA.out.grow hb)
    replace RB := hid (RB.out.grow hb)
    replace RC := hid (RC.out.grow hb)
    replace P := hid (grow_block P.out hb)
    replace K := hid (grow_block K.out hb)
    replace S := hid (grow_block S.out hb)
    replace X := hid (grow_block X.out hb)
    clear hb
    go_wp2_with (first | (refine opG_loadB rfl rfl rfl P.out Try.underlying44 rfl rfl ?_) | (refine opG_loadB rfl rfl rfl X.out Try.underlying88 rfl rfl ?_) | (refine opG_load1 rfl rfl rfl X.out rfl Try.underlying24 rfl ?_) | (refine opG_loadB rfl rfl rfl P.out Try.underlying44 rfl rfl ?_) | (refine opG_loadB rfl rfl rfl X.out Try.underlying88 rfl rfl ?_) | (refine opG_load1 rfl rfl rfl X.out rfl Try.underlying24 rfl ?_) | (refine op_loadId rfl rfl rfl S.out (HS.out) ?_) | (refine op_loadId rfl rfl rfl K.out (HK.out) ?_) |  (refine op_allocstore (l := ro) rfl rfl rfl rfl rfl rfl (fun _ => rfl) ⟨fun _ => rfl, LR.out⟩ ?_))
    intro g9 w18 hgl hgu hb hr
    have H9L := hid (Nat.le_trans HB.out.size hgl)
    replace HB := hid (Grow.trans HB.out hb)
    replace RA := hid (RA.out.grow hb)
    replace RB := hid (RB.out.grow hb)
    replace RC := hid (RC.out.grow hb)
    replace P := hid (grow_block P.out hb)
    replace K := hid (grow_block K.out hb)
    replace S := hid (grow_block S.out hb)
    replace X := hid (grow_block X.out hb)
    have H9 := hid hr; have H9U := hid hgu
    clear hr hgl hgu hb
    try simp only [Act.put, List.setIfInBounds_toArray, List.set_cons_zero, List.set_cons_succ]
    go_wp2_with (first | (refine opG_loadB rfl rfl rfl P.out Try.underlying44 rfl rfl ?_) | (refine opG_loadB rfl rfl rfl X.out Try.underlying88 rfl rfl ?_) | (refine opG_load1 rfl rfl rfl X.out rfl Try.underlying24 rfl ?_) | (refine opG_loadB rfl rfl rfl P.out Try.underlying44 rfl rfl ?_) | (refine opG_loadB rfl rfl rfl X.out Try.underlying88 rfl rfl ?_) | (refine opG_load1 rfl rfl rfl X.out rfl Try.underlying24 rfl ?_) | (refine op_loadId rfl rfl rfl S.out (HS.out) ?_) | (refine op_loadId rfl rfl rfl K.out (HK.out) ?_) |  fail)
    refine (HVG.out _ RA.out RB.out RC.out).mono ?_
    rintro e w19 ⟨rfl, hb⟩
    replace HB := hid (Grow.trans HB.out hb)
    replace RA := hid (RA.out.grow hb)
    replace RB := hid (RB.out.grow hb)
    replace RC := hid (RC.out.grow hb)
    replace P := hid (grow_block P.out hb)
    replace K := hid (grow_block K.out hb)
    replace S := hid (grow_block S.out hb)
    replace X := hid (grow_block X.out hb)
    replace H9 := hid (grow_block H9.out hb)
    clear hb
    go_wp2_with fail
    (refine' wp_region_head 7 0 [_, _, _, _, _, _, _] rfl (by kernel_rfl) (by kernel_rfl) ?hreg38; case' hreg38 => simp only [List.take_succ_cons, List.take_zero, List.zip_cons_cons, List.zip_nil_right, List.drop_succ_cons, List.drop_zero, List.drop_nil])
    (refine' head_loadB rfl ?_ rfl rfl P.out Try.underlying44 rfl rfl ?_; (first | exact fun _ _ _ => trivial | (intro t ht w; cases ht; simp [upE])); try simp only [Act.put, List.setIfInBounds_toArray, List.set_cons_zero, List.set_cons_succ])
    (refine' head_loadB rfl ?_ rfl rfl X.out Try.underlying88 rfl rfl ?_; (first | exact fun _ _ _ => trivial | (intro t ht w; cases ht; simp [upE])); try simp only [Act.put, List.setIfInBounds_toArray, List.set_cons_zero, List.set_cons_succ])
    (refine' head_call ?cw39 ?ce39 ?cr39 ?cc39 ?ch39; (case' cw39 => rfl); (case' ce39 => (first | exact fun _ _ _ => trivial | (intro t ht w; cases ht; simp [upE]))); (case' cr39 => (intro w'; go_simp; first | exact ⟨rfl, rfl⟩ | with_reducible rfl)); (case' cc39 => (intro w' hw' _; exact HF1.out w')); (case' ch39 => (try simp only [Act.put, List.setIfInBounds_toArray, List.set_cons_zero, List.set_cons_succ])))
    (refine' head_loadB rfl ?_ rfl rfl P.out Try.underlying44 rfl rfl ?_; (first | exact fun _ _ _ => trivial | (intro t ht w; cases ht; simp [upE])); try simp only [Act.put, List.setIfInBounds_toArray, List.set_cons_zero, List.set_cons_succ])
    (refine' head_loadB rfl ?_ rfl rfl X.out Try.underlying88 rfl rfl ?_; (first | exact fun _ _ _ => trivial | (intro t ht w; cases ht; simp [upE])); try simp only [Act.put, List.setIfInBounds_toArray, List.set_cons_zero, List.set_cons_succ])
    (refine' head_call ?cw40 ?ce40 ?cr40 ?cc40 ?ch40; (case' cw40 => rfl); (case' ce40 => (first | exact fun _ _ _ => trivial | (intro t ht w; cases ht; simp [upE]))); (case' cr40 => (intro w'; go_simp; first | exact ⟨rfl, rfl⟩ | with_reducible rfl)); (case' cc40 => (intro w' hw' _; exact HF2.out w')); (case' ch40 => (try simp only [Act.put, List.setIfInBounds_toArray, List.set_cons_zero, List.set_cons_succ])))
    (refine' head_val ?dw41 ?de41 ?dr41 ?dh41; (case' dw41 => rfl); (case' de41 => (first | exact fun _ _ _ => trivial | (intro t ht w; cases ht; simp [upE]))); (case' dr41 => (intro w' hw' _; go_simp; with_reducible rfl)); (case' dh41 => (try simp only [Act.put, List.setIfInBounds_toArray, List.set_cons_zero, List.set_cons_succ])))
    refine head_nil ?_
    intro w20 hb _
    replace HB := hid (Grow.trans HB.out hb)
    replace RA := hid (RA.out.grow hb)
    replace RB := hid (RB.out.grow hb)
    replace RC := hid (RC.out.grow hb)
    replace P := hid (grow_block P.out hb)
    replace K := hid (grow_block K.out hb)
    replace S := hid (grow_block S.out hb)
    replace X := hid (grow_block X.out hb)
    replace H9 := hid (grow_block H9.out hb)
    clear hb
    refine wpList_nil ?_
    go_wp2_with (first | (refine opG_loadB rfl rfl rfl P.out Try.underlying44 rfl rfl ?_) | (refine opG_loadB rfl rfl rfl X.out Try.underlying88 rfl rfl ?_) | (refine opG_load1 rfl rfl rfl X.out rfl Try.underlying24 rfl ?_) | (refine opG_loadB rfl rfl rfl P.out Try.underlying44 rfl rfl ?_) | (refine opG_loadB rfl rfl rfl X.out Try.underlying88 rfl rfl ?_) | (refine opG_load1 rfl rfl rfl X.out rfl Try.underlying24 rfl ?_) | (refine op_loadId rfl rfl rfl S.out (HS.out) ?_) | (refine op_loadId rfl rfl rfl K.out (HK.out) ?_) |  fail)
    refine (HF2.out _).mono ?_
    rintro e w21 ⟨rfl, hb⟩
    replace HB := hid (Grow.trans HB.out hb)
    replace RA := hid (RA.out.grow hb)
    replace RB := hid (RB.out.grow hb)
    replace RC := hid (RC.out.grow hb)
    replace P := hid (grow_block P.out hb)
    replace K := hid (grow_block K.out hb)
    replace S := hid (grow_block S.out hb)
    replace X := hid (grow_block X.out hb)
    replace H9 := hid (grow_block H9.out hb)
    clear hb
    go_wp2_with (first | (refine opG_loadB rfl rfl rfl P.out Try.underlying44 rfl rfl ?_) | (refine opG_loadB rfl rfl rfl X.out Try.underlying88 rfl rfl ?_) | (refine opG_load1 rfl rfl rfl X.out rfl Try.underlying24 rfl ?_) | (refine opG_loadB rfl rfl rfl P.out Try.underlying44 rfl rfl ?_) | (refine opG_loadB rfl rfl rfl X.out Try.underlying88 rfl rfl ?_) | (refine opG_load1 rfl rfl rfl X.out rfl Try.underlying24 rfl ?_) | (refine op_loadId rfl rfl rfl S.out (HS.out) ?_) | (refine op_loadId rfl rfl rfl K.out (HK.out) ?_) |  fail)
    refine (HK8.out _ RA.out RB.out RC.out).mono ?_
    rintro e w22 ⟨rfl, hb⟩
    replace HB := hid (Grow.trans HB.out hb)
    replace RA := hid (RA.out.grow hb)
    replace RB := hid (RB.out.grow hb)
    replace RC := hid (RC.out.grow hb)
    replace P := hid (grow_block P.out hb)
    replace K := hid (grow_block K.out hb)
    replace S := hid (grow_block S.out hb)
    replace X := hid (grow_block X.out hb)
    replace H9 := hid (grow_block H9.out hb)
    clear hb
    go_wp2_with (first | (refine opG_loadB rfl rfl rfl P.out Try.underlying44 rfl rfl ?_) | (refine opG_loadB rfl rfl rfl X.out Try.underlying88 rfl rfl ?_) | (refine opG_load1 rfl rfl rfl X.out rfl Try.underlying24 rfl ?_) | (refine opG_loadB rfl rfl rfl P.out Try.underlying44 rfl rfl ?_) | (refine opG_loadB rfl rfl rfl X.out Try.underlying88 rfl rfl ?_) | (refine opG_load1 rfl rfl rfl X.out rfl Try.underlying24 rfl ?_) | (refine op_loadId rfl rfl rfl S.out (HS.out) ?_) | (refine op_loadId rfl rfl rfl K.out (HK.out) ?_) |  (refine op_allocstore (l := k1) rfl rfl rfl rfl rfl rfl (fun _ => rfl) ⟨fun _ => rfl, LK1.out⟩ ?_))
    intro g12 w23 hgl hgu hb hr
    have H12L := hid (Nat.le_trans HB.out.size hgl)
    replace HB := hid (Grow.trans HB.out hb)
    replace RA := hid (RA.out.grow hb)
    replace RB := hid (RB.out.grow hb)
    replace RC := hid (RC.out.grow hb)
    replace P := hid (grow_block P.out hb)
    replace K := hid (grow_block K.out hb)
    replace S := hid (grow_block S.out hb)
    replace X := hid (grow_block X.out hb)
    replace H9 := hid (grow_block H9.out hb)
    have H12 := hid hr; have H12U := hid hgu
    clear hr hgl hgu hb
    try simp only [Act.put, List.setIfInBounds_toArray, List.set_cons_zero, List.set_cons_succ]
    go_wp2_with fail
    (refine' wp_region_head 37 0 [_, _, _, _, _, _, _, _, _, _, _, _, _, _, _, _, _, _, _, _, _, _, _, _, _, _, _, _, _, _, _, _, _, _, _, _, _] rfl (by kernel_rfl) (by kernel_rfl) ?hreg42; case' hreg42 => simp only [List.take_succ_cons, List.take_zero, List.zip_cons_cons, List.zip_nil_right, List.drop_succ_cons, List.drop_zero, List.drop_nil])
    (refine' head_val ?dw43 ?de43 ?dr43 ?dh43; (case' dw43 => rfl); (case' de43 => (first | exact fun _ _ _ => trivial | (intro t ht w; cases ht; simp [upE]))); (case' dr43 => (intro w' hw' _; go_simp; with_reducible rfl)); (case' dh43 => (try simp only [Act.put, List.setIfInBounds_toArray, List.set_cons_zero, List.set_cons_succ]))); (refine' head_val ?dw44 ?de44 ?dr44 ?dh44; (case' dw44 => rfl); (case' de44 => (first | exact fun _ _ _ => trivial | (intro t ht w; cases ht; simp [upE]))); (case' dr44 => (intro w' hw' _; go_simp; with_reducible rfl)); (case' dh44 => (try simp only [Act.put, List.setIfInBounds_toArray, List.set_cons_zero, List.set_cons_succ]))); (refine' head_val ?dw45 ?de45 ?dr45 ?dh45; (case' dw45 => rfl); (case' de45 => (first | exact fun _ _ _ => trivial | (intro t ht w; cases ht; simp [upE]))); (case' dr45 => (intro w' hw' _; go_simp; with_reducible rfl)); (case' dh45 => (try simp only [Act.put, List.setIfInBounds_toArray, List.set_cons_zero, List.set_cons_succ])))
    (refine' head_loadB rfl ?_ rfl rfl P.out Try.underlying44 rfl rfl ?_; (first | exact fun _ _ _ => trivial | (intro t ht w; cases ht; simp [upE])); try simp only [Act.put, List.setIfInBounds_toArray, List.set_cons_zero, List.set_cons_succ])
    (refine' head_loadId (x := _) rfl ?_ rfl rfl H9.out (LR.out) ?_; (first | exact fun _ _ _ => trivial | (intro t ht w; cases ht; simp [upE])); try simp only [Act.put, List.setIfInBounds_toArray, List.set_cons_zero, List.set_cons_succ])
    (refine' head_call ?cw46 ?ce46 ?cr46 ?cc46 ?ch46; (case' cw46 => rfl); (case' ce46 => (first | exact fun _ _ _ => trivial | (intro t ht w; cases ht; simp [upE]))); (case' cr46 => (intro w'; go_simp; first | exact ⟨rfl, rfl⟩ | with_reducible rfl)); (case' cc46 => (intro w' hw' _; exact HK7.out w')); (case' ch46 => (try simp only [Act.put, List.setIfInBounds_toArray, List.set_cons_zero, List.set_cons_succ])))
    (refine' head_loadId (x := _) rfl ?_ rfl rfl H12.out (LK1.out) ?_; (first | exact fun _ _ _ => trivial | (intro t ht w; cases ht; simp [upE])); try simp only [Act.put, List.setIfInBounds_toArray, List.set_cons_zero, List.set_cons_succ])
    (refine' head_val ?dw47 ?de47 ?dr47 ?dh47; (case' dw47 => rfl); (case' de47 => (first | exact fun _ _ _ => trivial | (intro t ht w; cases ht; simp [upE]))); (case' dr47 => (intro w' hw' _; go_simp; with_reducible rfl)); (case' dh47 => (try simp only [Act.put, List.setIfInBounds_toArray, List.set_cons_zero, List.set_cons_succ]))); (refine' head_val ?dw48 ?de48 ?dr48 ?dh48; (case' dw48 => rfl); (case' de48 => (first | exact fun _ _ _ => trivial | (intro t ht w; cases ht; simp [upE]))); (case' dr48 => (intro w' hw' _; go_simp; with_reducible rfl)); (case' dh48 => (try simp only [Act.put, List.setIfInBounds_toArray, List.set_cons_zero, List.set_cons_succ]))); (refine' head_val ?dw49 ?de49 ?dr49 ?dh49; (case' dw49 => rfl); (case' de49 => (first | exact fun _ _ _ => trivial | (intro t ht w; cases ht; simp [upE]))); (case' dr49 => (intro w' hw' _; go_simp; with_reducible rfl)); (case' dh49 => (try simp only [Act.put, List.setIfInBounds_toArray, List.set_cons_zero, List.set_cons_succ]))); (refine' head_val ?dw50 ?de50 ?dr50 ?dh50; (case' dw50 => rfl); (case' de50 => (first | exact fun _ _ _ => trivial | (intro t ht w; cases ht; simp [upE]))); (case' dr50 => (intro w' hw' _; go_simp; with_reducible rfl)); (case' dh50 => (try simp only [Act.put, List.setIfInBounds_toArray, List.set_cons_zero, List.set_cons_succ]))); (refine' head_val ?dw51 ?de51 ?dr51 ?dh51; (case' dw51 => rfl); (case' de51 => (first | exact fun _ _ _ => trivial | (intro t ht w; cases ht; simp [upE]))); (case' dr51 => (intro w' hw' _; go_simp; with_reducible rfl)); (case' dh51 => (try simp only [Act.put, List.setIfInBounds_toArray, List.set_cons_zero, List.set_cons_succ])))
    (refine' head_loadId (x := _) rfl ?_ rfl rfl H12.out (LK1.out) ?_; (first | exact fun _ _ _ => trivial | (intro t ht w; cases ht; simp [upE])); try simp only [Act.put, List.setIfInBounds_toArray, List.set_cons_zero, List.set_cons_succ])
    (refine' head_loadId (x := _) rfl ?_ rfl rfl K.out (HK.out) ?_; (first | exact fun _ _ _ => trivial | (intro t ht w; cases ht; simp [upE])); try simp only [Act.put, List.setIfInBounds_toArray, List.set_cons_zero, List.set_cons_succ])
    (refine' head_val ?dw52 ?de52 ?dr52 ?dh52; (case' dw52 => rfl); (case' de52 => (first | exact fun _ _ _ => trivial | (intro t ht w; cases ht; simp [upE]))); (case' dr52 => (intro w' hw' _; go_simp; with_reducible rfl)); (case' dh52 => (try simp only [Act.put, List.setIfInBounds_toArray, List.set_cons_zero, List.set_cons_succ]))); (refine' head_val ?dw53 ?de53 ?dr53 ?dh53; (case' dw53 => rfl); (case' de53 => (first | exact fun _ _ _ => trivial | (intro t ht w; cases ht; simp [upE]))); (case' dr53 => (intro w' hw' _; go_simp; with_reducible rfl)); (case' dh53 => (try simp only [Act.put, List.setIfInBounds_toArray, List.set_cons_zero, List.set_cons_succ]))); (refine' head_val ?dw54 ?de54 ?dr54 ?dh54; (case' dw54 => rfl); (case' de54 => (first | exact fun _ _ _ => trivial | (intro t ht w; cases ht; simp [upE]))); (case' dr54 => (intro w' hw' _; go_simp; with_reducible rfl)); (case' dh54 => (try simp only [Act.put, List.setIfInBounds_toArray, List.set_cons_zero, List.set_cons_succ]))); (refine' head_val ?dw55 ?de55 ?dr55 ?dh55; (case' dw55 => rfl); (case' de55 => (first | exact fun _ _ _ => trivial | (intro t ht w; cases ht; simp [upE]))); (case' dr55 => (intro w' hw' _; go_simp; with_reducible rfl)); (case' dh55 => (try simp only [Act.put, List.setIfInBounds_toArray, List.set_cons_zero, List.set_cons_succ]))); (refine' head_val ?dw56 ?de56 ?dr56 ?dh56; (case' dw56 => rfl); (case' de56 => (first | exact fun _ _ _ => trivial | (intro t ht w; cases ht; simp [upE]))); (case' dr56 => (intro w' hw' _; go_simp; with_reducible rfl)); (case' dh56 => (try simp only [Act.put, List.setIfInBounds_toArray, List.set_cons_zero, List.set_cons_succ]))); (refine' head_val ?dw57 ?de57 ?dr57 ?dh57; (case' dw57 => rfl); (case' de57 => (first | exact fun _ _ _ => trivial | (intro t ht w; cases ht; simp [upE]))); (case' dr57 => (intro w' hw' _; go_simp; with_reducible rfl)); (case' dh57 => (try simp only [Act.put, List.setIfInBounds_toArray, List.set_cons_zero, List.set_cons_succ]))); (refine' head_val ?dw58 ?de58 ?dr58 ?dh58; (case' dw58 => rfl); (case' de58 => (first | exact fun _ _ _ => trivial | (intro t ht w; cases ht; simp [upE]))); (case' dr58 => (intro w' hw' _; go_simp; with_reducible rfl)); (case' dh58 => (try simp only [Act.put, List.setIfInBounds_toArray, List.set_cons_zero, List.set_cons_succ])))
    (refine' head_val ?dw59 ?de59 ?dr59 ?dh59; (case' dw59 => rfl); (case' de59 => (first | exact fun _ _ _ => trivial | (intro t ht w; cases ht; simp [upE]))); (case' dr59 => (intro w' hw' _; go_simp; with_reducible rfl)); (case' dh59 => (try simp only [Act.put, List.setIfInBounds_toArray, List.set_cons_zero, List.set_cons_succ]))); (refine' head_val ?dw60 ?de60 ?dr60 ?dh60; (case' dw60 => rfl); (case' de60 => (first | exact fun _ _ _ => trivial | (intro t ht w; cases ht; simp [upE]))); (case' dr60 => (intro w' hw' _; go_simp; with_reducible rfl)); (case' dh60 => (try simp only [Act.put, List.setIfInBounds_toArray, List.set_cons_zero, List.set_cons_succ])))
    (refine' head_val ?dw61 ?de61 ?dr61 ?dh61; (case' dw61 => rfl); (case' de61 => (first | exact fun _ _ _ => trivial | (intro t ht w; cases ht; simp [upE]))); (case' dr61 => (intro w' hw' _; go_simp; with_reducible rfl)); (case' dh61 => (try simp only [Act.put, List.setIfInBounds_toArray, List.set_cons_zero, List.set_cons_succ]))); (refine' head_val ?dw62 ?de62 ?dr62 ?dh62; (case' dw62 => rfl); (case' de62 => (first | exact fun _ _ _ => trivial | (intro t ht w; cases ht; simp [upE]))); (case' dr62 => (intro w' hw' _; go_simp; with_reducible rfl)); (case' dh62 => (try simp only [Act.put, List.setIfInBounds_toArray, List.set_cons_zero, List.set_cons_succ]))); (refine' head_val ?dw63 ?de63 ?dr63 ?dh63; (case' dw63 => rfl); (case' de63 => (first | exact fun _ _ _ => trivial | (intro t ht w; cases ht; simp [upE]))); (case' dr63 => (intro w' hw' _; go_simp; with_reducible rfl)); (case' dh63 => (try simp only [Act.put, List.setIfInBounds_toArray, List.set_cons_zero, List.set_cons_succ])))
    (refine' head_loadB rfl ?_ rfl rfl P.out Try.underlying44 rfl rfl ?_; (first | exact fun _ _ _ => trivial | (intro t ht w; cases ht; simp [upE])); try simp only [Act.put, List.setIfInBounds_toArray, List.set_cons_zero, List.set_cons_succ])
    (refine' head_loadId (x := _) rfl ?_ rfl rfl H12.out (LK1.out) ?_; (first | exact fun _ _ _ => trivial | (intro t ht w; cases ht; simp [upE])); try simp only [Act.put, List.setIfInBounds_toArray, List.set_cons_zero, List.set_cons_succ])
    (refine' head_loadId (x := _) rfl ?_ rfl rfl S.out (HS.out) ?_; (first | exact fun _ _ _ => trivial | (intro t ht w; cases ht; simp [upE])); try simp only [Act.put, List.setIfInBounds_toArray, List.set_cons_zero, List.set_cons_succ])
    (refine' head_loadB rfl ?_ rfl rfl X.out Try.underlying88 rfl rfl ?_; (first | exact fun _ _ _ => trivial | (intro t ht w; cases ht; simp [upE])); try simp only [Act.put, List.setIfInBounds_toArray, List.set_cons_zero, List.set_cons_succ])
    (refine' head_call ?cw64 ?ce64 ?cr64 ?cc64 ?ch64; (case' cw64 => rfl); (case' ce64 => (first | exact fun _ _ _ => trivial | (intro t ht w; cases ht; simp [upE]))); (case' cr64 => (intro w'; go_simp; first | exact ⟨rfl, rfl⟩ | with_reducible rfl)); (case' cc64 => (intro w' hw' _; exact HVK.out w' (RA.out.grow hw') (RB.out.grow hw') (RC.out.grow hw'))); (case' ch64 => (try simp only [Act.put, List.setIfInBounds_toArray, List.set_cons_zero, List.set_cons_succ])))
    (refine' head_val ?dw65 ?de65 ?dr65 ?dh65; (case' dw65 => rfl); (case' de65 => (first | exact fun _ _ _ => trivial | (intro t ht w; cases ht; simp [upE]))); (case' dr65 => (intro w' hw' _; go_simp; with_reducible rfl)); (case' dh65 => (try simp only [Act.put, List.setIfInBounds_toArray, List.set_cons_zero, List.set_cons_succ]))); (refine' head_val ?dw66 ?de66 ?dr66 ?dh66; (case' dw66 => rfl); (case' de66 => (first | exact fun _ _ _ => trivial | (intro t ht w; cases ht; simp [upE]))); (case' dr66 => (intro w' hw' _; go_simp; with_reducible rfl)); (case' dh66 => (try simp only [Act.put, List.setIfInBounds_toArray, List.set_cons_zero, List.set_cons_succ]))); (refine' head_val ?dw67 ?de67 ?dr67 ?dh67; (case' dw67 => rfl); (case' de67 => (first | exact fun _ _ _ => trivial | (intro t ht w; cases ht; simp [upE]))); (case' dr67 => (intro w' hw' _; go_simp; with_reducible rfl)); (case' dh67 => (try simp only [Act.put, List.setIfInBounds_toArray, List.set_cons_zero, List.set_cons_succ])))
    (refine' head_call ?cw68 ?ce68 ?cr68 ?cc68 ?ch68; (case' cw68 => rfl); (case' ce68 => (first | exact fun _ _ _ => trivial | (intro t ht w; cases ht; simp [upE]))); (case' cr68 => (intro w'; go_simp; first | exact ⟨rfl, rfl⟩ | with_reducible rfl)); (case' cc68 => (intro w' hw' _; exact awake08 w')); (case' ch68 => (try simp only [Act.put, List.setIfInBounds_toArray, List.set_cons_zero, List.set_cons_succ])))
    (refine' head_val ?dw69 ?de69 ?dr69 ?dh69; (case' dw69 => rfl); (case' de69 => (first | exact fun _ _ _ => trivial | (intro t ht w; cases ht; simp [upE]))); (case' dr69 => (intro w' hw' _; go_simp; with_reducible rfl)); (case' dh69 => (try simp only [Act.put, List.setIfInBounds_toArray, List.set_cons_zero, List.set_cons_succ]))); (refine' head_val ?dw70 ?de70 ?dr70 ?dh70; (case' dw70 => rfl); (case' de70 => (first | exact fun _ _ _ => trivial | (intro t ht w; cases ht; simp [upE]))); (case' dr70 => (intro w' hw' _; go_simp; with_reducible rfl)); (case' dh70 => (try simp only [Act.put, List.setIfInBounds_toArray, List.set_cons_zero, List.set_cons_succ])))
    refine head_nil ?_
    intro w24 hb _
    replace HB := hid (Grow.trans HB.out hb)
    replace RA := hid (RA.out.grow hb)
    replace RB := hid (RB.out.grow hb)
    replace RC := hid (RC.out.grow hb)
    replace P := hid (grow_block P.out hb)
    replace K := hid (grow_block K.out hb)
    replace S := hid (grow_block S.out hb)
    replace X := hid (grow_block X.out hb)
    replace H9 := hid (grow_block H9.out hb)
    replace H12 := hid (grow_block H12.out hb)
    clear hb
    refine wpList_nil ?_
    clear hq1 hq2 hq3 hq4
    go_wp2_with fail
    go_ret
    exact ⟨rfl, HB.out⟩
theorem signerVerifies (b h : Int) (key sum : IdK) (hkl : key.length = 32) (hs : sum.length = 32) (leaf : Int) (hlm : leaf ≤ 9223372036854775807) (A B C : Option Addr) (n m k c d e : Nat) (shown hidden way : List IdK) (w : World) (hA : IdRow w A shown) (hB : IdRow w B hidden) (hC : IdRow w C way) (hn : shown.length = n) (hm : hidden.length = m) (hk : way.length = k) (h1 : ∀ s ∈ shown, s.length = 32) (h2 : ∀ s ∈ hidden, s.length = 32) (h3 : ∀ s ∈ way, s.length = 32) :
    Calls Try.prog 13 #[.agg #[.int .i64 b, .int .i64 h], idV key, idV sum, .agg #[.int .i64 leaf, .slice A n c, .slice B m d, .slice C k e]] w fun e w' => e = .returned (.bool true) ∧ Below w.heap.size w w' := by
  have b1 : n ≤ 9223372036854775807 := by rw [← hn]; exact hA.1
  have b2 : m ≤ 9223372036854775807 := by rw [← hm]; exact hB.1
  have b3 : k ≤ 9223372036854775807 := by rw [← hk]; exact hC.1
  clear b1 b2 b3
  by_cases hlg : 20 < n ∨ 20 < m ∨ 12 < k
  · exact signerVerifies_long b h key sum hkl hs leaf hlm A B C n m k c d e shown hidden way w hA hB hC hn hm hk h1 h2 h3 hlg
  · cases hf : fitsB b h leaf n m k with
    | false => exact signerVerifies_bad b h key sum hkl hs leaf hlm A B C n m k c d e shown hidden way w hA hB hC hn hm hk h1 h2 h3 hlg hf
    | true => exact signerVerifies_good b h key sum hkl hs leaf hlm A B C n m k c d e shown hidden way w hA hB hC hn hm hk h1 h2 h3 hlg hf
end Go.Proofs.Ytffgifegaagndaa
