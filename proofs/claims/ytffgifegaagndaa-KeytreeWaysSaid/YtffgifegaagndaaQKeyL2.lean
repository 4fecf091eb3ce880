/- The law KeytreeWays: walk. -/
import Derived.Test.YtffgifegaagndaaQKeyG
import Derived.Test.YtffgifegaagndaaQKeyD
import Derived.Test.YtffgifegaagndaaQLate
set_option linter.unusedSimpArgs false
set_option linter.unusedVariables false
namespace Go.Proofs.Ytffgifegaagndaa
open Go.RowKit
open Go.Qk hiding rotr b4
set_option maxHeartbeats 1000000
set_option maxRecDepth 100000
theorem keytreeWays_long (b h : Int) (seed : ByteArray) (hsz : seed.size ≤ 140737488351232) (leaf : Int) (h100 : 100 < seed.size) (w : World) :
    Calls Try.prog 6 #[.agg #[.int .i64 b, .int .i64 h], .string seed, .int .i64 leaf] w fun e w' => e = .returned (.bool true) ∧ Below w.heap.size w w' := by
  have t1 : decide ((100 : Int) < (seed.size : Int)) = true := by simp; omega
  go_enter Try.func6, Try.ntmps6
  have HB := hid (grow_refl w)
  apply wp_seq_k; intro _ _; apply wp_region_lit
  refine op_boxC (cs := #[.int .i64 b, .int .i64 h]) rfl rfl rfl rfl ?_
  intro gp w1 hgl hgu hb hr
  have PL := hid (Nat.le_trans HB.out.size hgl)
  replace HB := hid (Grow.trans HB.out hb)
  have P := hid hr; have PU := hid hgu
  clear hr hgl hgu hb
  try simp only [Act.put, List.setIfInBounds_toArray, List.set_cons_zero, List.set_cons_succ]
  go_wp2_with (first | (refine opG_loadB rfl rfl rfl P.out Try.underlying44 rfl rfl ?_) | (refine opG_load1 rfl rfl rfl P.out rfl Try.underlying3 rfl ?_) |  fail)
  refine (awake07 _).mono ?_
  rintro e w2 ⟨rfl, hb⟩
  replace HB := hid (Grow.trans HB.out hb)
  replace P := hid (grow_block P.out hb)
  clear hb
  go_wp2
  go_ret
  exact ⟨rfl, HB.out⟩
theorem keytreeWays_large (b h : Int) (seed : ByteArray) (hsz : seed.size ≤ 140737488351232) (leaf : Int) (h100 : ¬ 100 < seed.size) (hlg : (ktB b h && (decide (16 < b) || decide (2 < h))) = true) (w : World) :
    Calls Try.prog 6 #[.agg #[.int .i64 b, .int .i64 h], .string seed, .int .i64 leaf] w fun e w' => e = .returned (.bool true) ∧ Below w.heap.size w w' := by
  have t1 : decide ((100 : Int) < (seed.size : Int)) = false := by simp; omega
  have HLG := hid (fun w => large7 b h w)
  rw [hlg] at HLG
  clear hlg
  go_enter Try.func6, Try.ntmps6
  have HB := hid (grow_refl w)
  apply wp_seq_k; intro _ _; apply wp_region_lit
  refine op_boxC (cs := #[.int .i64 b, .int .i64 h]) rfl rfl rfl rfl ?_
  intro gp w1 hgl hgu hb hr
  have PL := hid (Nat.le_trans HB.out.size hgl)
  replace HB := hid (Grow.trans HB.out hb)
  have P := hid hr; have PU := hid hgu
  clear hr hgl hgu hb
  try simp only [Act.put, List.setIfInBounds_toArray, List.set_cons_zero, List.set_cons_succ]
  go_wp2_with (first | (refine opG_loadB rfl rfl rfl P.out Try.underlying44 rfl rfl ?_) | (refine opG_load1 rfl rfl rfl P.out rfl Try.underlying3 rfl ?_) |  fail)
  refine (HLG.out _).mono ?_
  rintro e w2 ⟨rfl, hb⟩
  replace HB := hid (Grow.trans HB.out hb)
  replace P := hid (grow_block P.out hb)
  clear hb
  go_wp2_with (first | (refine opG_loadB rfl rfl rfl P.out Try.underlying44 rfl rfl ?_) | (refine opG_load1 rfl rfl rfl P.out rfl Try.underlying3 rfl ?_) |  fail)
  refine (awake07 _).mono ?_
  rintro e w3 ⟨rfl, hb⟩
  replace HB := hid (Grow.trans HB.out hb)
  replace P := hid (grow_block P.out hb)
  clear hb
  go_wp2
  go_ret
  exact ⟨rfl, HB.out⟩
theorem keytreeWays_bad (b h : Int) (seed : ByteArray) (hsz : seed.size ≤ 140737488351232) (leaf : Int) (h100 : ¬ 100 < seed.size) (hk : ktB b h = false) (w : World) :
    Calls Try.prog 6 #[.agg #[.int .i64 b, .int .i64 h], .string seed, .int .i64 leaf] w fun e w' => e = .returned (.bool true) ∧ Below w.heap.size w w' := by
  have t1 : decide ((100 : Int) < (seed.size : Int)) = false := by simp; omega
  have HLG := hid (fun w => large7 b h w)
  rw [hk, Bool.false_and] at HLG
  have HWB := hid (fun w => ktWay_bad seed b h leaf hk w)
  have HR7 := hid (fun w => refRight7 b h w)
  rw [hk] at HR7
  clear hk
  go_enter Try.func6, Try.ntmps6
  have HB := hid (grow_refl w)
  apply wp_seq_k; intro _ _; apply wp_region_lit
  refine op_boxC (cs := #[.int .i64 b, .int .i64 h]) rfl rfl rfl rfl ?_
  intro gp w1 hgl hgu hb hr
  have PL := hid (Nat.le_trans HB.out.size hgl)
  replace HB := hid (Grow.trans HB.out hb)
  have P := hid hr; have PU := hid hgu
  clear hr hgl hgu hb
  try simp only [Act.put, List.setIfInBounds_toArray, List.set_cons_zero, List.set_cons_succ]
  go_wp2_with (first | (refine opG_loadB rfl rfl rfl P.out Try.underlying44 rfl rfl ?_) | (refine opG_load1 rfl rfl rfl P.out rfl Try.underlying3 rfl ?_) |  fail)
  refine (HLG.out _).mono ?_
  rintro e w2 ⟨rfl, hb⟩
  replace HB := hid (Grow.trans HB.out hb)
  replace P := hid (grow_block P.out hb)
  clear hb
  go_wp2_with (first | (refine opG_loadB rfl rfl rfl P.out Try.underlying44 rfl rfl ?_) | (refine opG_load1 rfl rfl rfl P.out rfl Try.underlying3 rfl ?_) |  fail)
  refine (HWB.out _).mono ?_
  rintro e w3 ⟨rfl, hb⟩
  replace HB := hid (Grow.trans HB.out hb)
  replace P := hid (grow_block P.out hb)
  clear hb
  go_wp2_with (first | (refine opG_loadB rfl rfl rfl P.out Try.underlying44 rfl rfl ?_) | (refine opG_load1 rfl rfl rfl P.out rfl Try.underlying3 rfl ?_) |  fail)
  refine (HR7.out _).mono ?_
  rintro e w4 ⟨rfl, hb⟩
  replace HB := hid (Grow.trans HB.out hb)
  replace P := hid (grow_block P.out hb)
  clear hb
  go_wp2_with (first | (refine opG_loadB rfl rfl rfl P.out Try.underlying44 rfl rfl ?_) | (refine opG_load1 rfl rfl rfl P.out rfl Try.underlying3 rfl ?_) |  fail)
  refine (awake07 _).mono ?_
  rintro e w5 ⟨rfl, hb⟩
  replace HB := hid (Grow.trans HB.out hb)
  replace P := hid (grow_block P.out hb)
  clear hb
  go_wp2
  go_ret
  exact ⟨rfl, HB.out⟩
theorem keytreeWays_out (b h : Int) (seed : ByteArray) (hsz : seed.size ≤ 140737488351232) (leaf : Int) (h100 : ¬ 100 < seed.size) (hk : ktB b h = true) (hlg : (ktB b h && (decide (16 < b) || decide (2 < h))) = false) (hl : leaf < 0 ∨ ((2 ^ h.toNat : Nat) : Int) ≤ leaf) (w : World) :
    Calls Try.prog 6 #[.agg #[.int .i64 b, .int .i64 h], .string seed, .int .i64 leaf] w fun e w' => e = .returned (.bool true) ∧ Below w.heap.size w w' := by
  have t1 : decide ((100 : Int) < (seed.size : Int)) = false := by simp; omega
  have HLG := hid (fun w => large7 b h w)
  rw [hlg] at HLG
  have HR7 := hid (fun w => refRight7 b h w)
  rw [hk] at HR7
  obtain ⟨b1, b2, b3, b4⟩ := kt_bounds hk
  obtain ⟨b, rfl⟩ : ∃ n : Nat, b = (n : Int) := ⟨b.toNat, by omega⟩
  obtain ⟨h, rfl⟩ : ∃ n : Nat, h = (n : Int) := ⟨h.toNat, by omega⟩
  have HPW := hid (fun w => refPower7 h (by omega) w)
  rw [Int.toNat_natCast] at hl
  have HWO := hid (fun w => ktWay_out seed b h leaf hk hl w)
  clear hk hlg b1 b2 b3 b4
  generalize 2 ^ h = n at *
  by_cases h0 : leaf < 0
  · have t2 : decide (leaf < 0) = true := by simpa using h0
    clear hl
    go_enter Try.func6, Try.ntmps6
    have HB := hid (grow_refl w)
    apply wp_seq_k; intro _ _; apply wp_region_lit
    refine op_boxC (cs := #[.int .i64 (b : Int), .int .i64 (h : Int)]) rfl rfl rfl rfl ?_
    intro gp w1 hgl hgu hb hr
    have PL := hid (Nat.le_trans HB.out.size hgl)
    replace HB := hid (Grow.trans HB.out hb)
    have P := hid hr; have PU := hid hgu
    clear hr hgl hgu hb
    try simp only [Act.put, List.setIfInBounds_toArray, List.set_cons_zero, List.set_cons_succ]
    go_wp2_with (first | (refine opG_loadB rfl rfl rfl P.out Try.underlying44 rfl rfl ?_) | (refine opG_load1 rfl rfl rfl P.out rfl Try.underlying3 rfl ?_) |  fail)
    refine (HLG.out _).mono ?_
    rintro e w2 ⟨rfl, hb⟩
    replace HB := hid (Grow.trans HB.out hb)
    replace P := hid (grow_block P.out hb)
    clear hb
    go_wp2_with (first | (refine opG_loadB rfl rfl rfl P.out Try.underlying44 rfl rfl ?_) | (refine opG_load1 rfl rfl rfl P.out rfl Try.underlying3 rfl ?_) |  fail)
    refine (HWO.out _).mono ?_
    rintro e w3 ⟨rfl, hb⟩
    replace HB := hid (Grow.trans HB.out hb)
    replace P := hid (grow_block P.out hb)
    clear hb
    go_wp2_with (first | (refine opG_loadB rfl rfl rfl P.out Try.underlying44 rfl rfl ?_) | (refine opG_load1 rfl rfl rfl P.out rfl Try.underlying3 rfl ?_) |  fail)
    refine (HR7.out _).mono ?_
    rintro e w4 ⟨rfl, hb⟩
    replace HB := hid (Grow.trans HB.out hb)
    replace P := hid (grow_block P.out hb)
    clear hb
    go_wp2_with (first | (refine opG_loadB rfl rfl rfl P.out Try.underlying44 rfl rfl ?_) | (refine opG_load1 rfl rfl rfl P.out rfl Try.underlying3 rfl ?_) |  fail)
    refine (awake07 _).mono ?_
    rintro e w5 ⟨rfl, hb⟩
    replace HB := hid (Grow.trans HB.out hb)
    replace P := hid (grow_block P.out hb)
    clear hb
    go_wp2
    go_ret
    exact ⟨rfl, HB.out⟩
  · have t2 : decide (leaf < 0) = false := by simpa using h0
    have t3 : decide ((n : Int) ≤ leaf) = true := by simp; omega
    clear hl
    go_enter Try.func6, Try.ntmps6
    have HB := hid (grow_refl w)
    apply wp_seq_k; intro _ _; apply wp_region_lit
    refine op_boxC (cs := #[.int .i64 (b : Int), .int .i64 (h : Int)]) rfl rfl rfl rfl ?_
    intro gp w6 hgl hgu hb hr
    have PL := hid (Nat.le_trans HB.out.size hgl)
    replace HB := hid (Grow.trans HB.out hb)
    have P := hid hr; have PU := hid hgu
    clear hr hgl hgu hb
    try simp only [Act.put, List.setIfInBounds_toArray, List.set_cons_zero, List.set_cons_succ]
    go_wp2_with (first | (refine opG_loadB rfl rfl rfl P.out Try.underlying44 rfl rfl ?_) | (refine opG_load1 rfl rfl rfl P.out rfl Try.underlying3 rfl ?_) | (refine opG_loadB rfl rfl rfl P.out Try.underlying44 rfl rfl ?_) | (refine opG_load1 rfl rfl rfl P.out rfl Try.underlying3 rfl ?_) |  fail)
    refine (HLG.out _).mono ?_
    rintro e w7 ⟨rfl, hb⟩
    replace HB := hid (Grow.trans HB.out hb)
    replace P := hid (grow_block P.out hb)
    clear hb
    go_wp2_with (first | (refine opG_loadB rfl rfl rfl P.out Try.underlying44 rfl rfl ?_) | (refine opG_load1 rfl rfl rfl P.out rfl Try.underlying3 rfl ?_) | (refine opG_loadB rfl rfl rfl P.out Try.underlying44 rfl rfl ?_) | (refine opG_load1 rfl rfl rfl P.out rfl Try.underlying3 rfl ?_) |  fail)
    refine (HWO.out _).mono ?_
    rintro e w8 ⟨rfl, hb⟩
    replace HB := hid (Grow.trans HB.out hb)
    replace P := hid (grow_block P.out hb)
    clear hb
    go_wp2_with (first | (refine opG_loadB rfl rfl rfl P.out Try.underlying44 rfl rfl ?_) | (refine opG_load1 rfl rfl rfl P.out rfl Try.underlying3 rfl ?_) | (refine opG_loadB rfl rfl rfl P.out Try.underlying44 rfl rfl ?_) | (refine opG_load1 rfl rfl rfl P.out rfl Try.underlying3 rfl ?_) |  fail)
    refine (HR7.out _).mono ?_
    rintro e w9 ⟨rfl, hb⟩
    replace HB := hid (Grow.trans HB.out hb)
    replace P := hid (grow_block P.out hb)
    clear hb
    go_wp2_with (first | (refine opG_loadB rfl rfl rfl P.out Try.underlying44 rfl rfl ?_) | (refine opG_load1 rfl rfl rfl P.out rfl Try.underlying3 rfl ?_) | (refine opG_loadB rfl rfl rfl P.out Try.underlying44 rfl rfl ?_) | (refine opG_load1 rfl rfl rfl P.out rfl Try.underlying3 rfl ?_) |  fail)
    refine (HPW.out _).mono ?_
    rintro e w10 ⟨rfl, hb⟩
    replace HB := hid (Grow.trans HB.out hb)
    replace P := hid (grow_block P.out hb)
    clear hb
    go_wp2_with (first | (refine opG_loadB rfl rfl rfl P.out Try.underlying44 rfl rfl ?_) | (refine opG_load1 rfl rfl rfl P.out rfl Try.underlying3 rfl ?_) | (refine opG_loadB rfl rfl rfl P.out Try.underlying44 rfl rfl ?_) | (refine opG_load1 rfl rfl rfl P.out rfl Try.underlying3 rfl ?_) |  fail)
    refine (awake07 _).mono ?_
    rintro e w11 ⟨rfl, hb⟩
    replace HB := hid (Grow.trans HB.out hb)
    replace P := hid (grow_block P.out hb)
    clear hb
    go_wp2
    go_ret
    exact ⟨rfl, HB.out⟩
theorem keytreeWays_good (b h : Int) (seed : ByteArray) (hsz : seed.size ≤ 140737488351232) (leaf : Int) (h100 : ¬ 100 < seed.size) (hk : ktB b h = true) (hlg : (ktB b h && (decide (16 < b) || decide (2 < h))) = false) (h0 : 0 ≤ leaf) (hl : leaf < ((2 ^ h.toNat : Nat) : Int)) (w : World) :
    Calls Try.prog 6 #[.agg #[.int .i64 b, .int .i64 h], .string seed, .int .i64 leaf] w fun e w' => e = .returned (.bool true) ∧ Below w.heap.size w w' := by
  have t1 : decide ((100 : Int) < (seed.size : Int)) = false := by simp; omega
  have hs : seed.size ≤ 1000000 := by omega
  have HLG := hid (fun w => large7 b h w)
  rw [hlg] at HLG
  have HR7 := hid (fun w => refRight7 b h w)
  rw [hk] at HR7
  obtain ⟨b1, b2, b3, b4⟩ := kt_bounds hk
  obtain ⟨b, rfl⟩ : ∃ n : Nat, b = (n : Int) := ⟨b.toNat, by omega⟩
  obtain ⟨h, rfl⟩ : ∃ n : Nat, h = (n : Int) := ⟨h.toNat, by omega⟩
  have HPW := hid (fun w => refPower7 h (by omega) w)
  rw [Int.toNat_natCast] at hl
  obtain ⟨leaf, rfl⟩ : ∃ n : Nat, leaf = (n : Int) := ⟨leaf.toNat, by omega⟩
  have hl2 : leaf < 2 ^ h := by omega
  have h10 : 2 ^ h ≤ 2 ^ 10 := Nat.pow_le_pow_right (by omega) (by omega)
  have HWG := hid (fun w => ktWay seed hs b h leaf hk hl2 w)
  have HRW := hid (fun w => refWay7 seed hs b h (by omega) (by omega) leaf hl2 w)
  have W32 := hid (wayOf_32 seed b h leaf)
  have WL := hid (wayOf_length seed b h leaf)
  have HRL := hid (fun w => refLeaf seed leaf b hs (by omega) w)
  have HLL := hid (leafOf_length seed leaf b)
  have HCL := hid (fun A c w (hx : IdRow w A (wayOf seed b h leaf)) => ktClimb leaf leaf (by omega) (by omega) (leafOf seed leaf b) (leafOf_length _ _ _) A (wayOf seed b h leaf).length c (wayOf seed b h leaf) w hx rfl (wayOf_32 _ _ _ _) (by rw [wayOf_length]; omega))
  rw [climb_root seed b leaf h hl2] at HCL
  have HNL := hid (nodeOf_length seed b h 0)
  have HKE := hid (fun w => ktKey b h (nodeOf seed b h 0) (nodeOf_length _ _ _ _) hk w)
  have HOG := hid (fun w => ktOfC seed hs b h hk w)
  have HKO := hid (show keyOf b h (nodeOf seed b h 0) = ktOf seed b h from rfl)
  rw [HKO.out] at HKE
  have LK := hid (ktOf_length seed b h)
  generalize nodeOf seed b h 0 = root at *
  generalize ktOf seed b h = key at *
  generalize leafOf seed leaf b = lf at *
  generalize wayOf seed b h leaf = wy at *
  have t2 : decide ((leaf : Int) < 0) = false := by simp
  have t3 : decide (2 ^ h ≤ leaf) = false := by simp; omega
  have n1 : (leaf : Int) ≤ 1024 := by omega
  generalize 2 ^ h = n at *
  have hq1 := id_eql_self key LK.out
  have hq2 := id_guard .eql key key
  clear hk hlg b1 b2 b3 b4 hl hl2 h10 HKO
  go_enter Try.func6, Try.ntmps6
  have HB := hid (grow_refl w)
  apply wp_seq_k; intro _ _; apply wp_region_lit
  refine op_boxC (cs := #[.int .i64 (b : Int), .int .i64 (h : Int)]) rfl rfl rfl rfl ?_
  intro gp w1 hgl hgu hb hr
  have PL := hid (Nat.le_trans HB.out.size hgl)
  replace HB := hid (Grow.trans HB.out hb)
  have P := hid hr; have PU := hid hgu
  clear hr hgl hgu hb
  try simp only [Act.put, List.setIfInBounds_toArray, List.set_cons_zero, List.set_cons_succ]
  go_wp2_with (first | (refine opG_loadB rfl rfl rfl P.out Try.underlying44 rfl rfl ?_) | (refine opG_load1 rfl rfl rfl P.out rfl Try.underlying3 rfl ?_) |  fail)
  refine (HLG.out _).mono ?_
  rintro e w2 ⟨rfl, hb⟩
  replace HB := hid (Grow.trans HB.out hb)
  replace P := hid (grow_block P.out hb)
  clear hb
  go_wp2_with (first | (refine opG_loadB rfl rfl rfl P.out Try.underlying44 rfl rfl ?_) | (refine opG_load1 rfl rfl rfl P.out rfl Try.underlying3 rfl ?_) |  fail)
  refine (HWG.out _).mono ?_
  rintro e w9 ⟨v, rfl, ho, hb⟩
  replace HB := hid (Grow.trans HB.out hb)
  replace P := hid (grow_block P.out hb)
  clear hb
  obtain ⟨⟨A7, c7, rfl, hrow⟩, _⟩ := ho.sl
  have R7 := hid hrow
  clear ho hrow
  go_wp2_with (first | (refine opG_loadB rfl rfl rfl P.out Try.underlying44 rfl rfl ?_) | (refine opG_load1 rfl rfl rfl P.out rfl Try.underlying3 rfl ?_) |  fail)
  refine (HR7.out _).mono ?_
  rintro e w3 ⟨rfl, hb⟩
  replace HB := hid (Grow.trans HB.out hb)
  replace P := hid (grow_block P.out hb)
  replace R7 := hid (R7.out.grow hb)
  clear hb
  go_wp2_with (first | (refine opG_loadB rfl rfl rfl P.out Try.underlying44 rfl rfl ?_) | (refine opG_load1 rfl rfl rfl P.out rfl Try.underlying3 rfl ?_) |  fail)
  refine (HPW.out _).mono ?_
  rintro e w4 ⟨rfl, hb⟩
  replace HB := hid (Grow.trans HB.out hb)
  replace P := hid (grow_block P.out hb)
  replace R7 := hid (R7.out.grow hb)
  clear hb
  go_wp2_with (first | (refine opG_loadB rfl rfl rfl P.out Try.underlying44 rfl rfl ?_) | (refine opG_load1 rfl rfl rfl P.out rfl Try.underlying3 rfl ?_) |  fail)
  (refine' wp_region_headL 14 2 12 [_, _, _, _, _, _, _, _, _, _, _, _, _, _] rfl (by kernel_rfl) (by kernel_rfl) (by intro op ho v c a w h; cases ho; exact h) ?hreg1; case' hreg1 => simp only [List.take_succ_cons, List.take_zero, List.zip_cons_cons, List.zip_nil_right, List.drop_succ_cons, List.drop_zero, List.drop_nil])
  (refine' head_loadB rfl ?_ rfl rfl P.out Try.underlying44 rfl rfl ?_; (first | exact fun _ _ _ => trivial | (intro t ht w; cases ht; simp [upE])); try simp only [Act.put, List.setIfInBounds_toArray, List.set_cons_zero, List.set_cons_succ])
  (refine' head_val ?dw2 ?de2 ?dr2 ?dh2; (case' dw2 => rfl); (case' de2 => (first | exact fun _ _ _ => trivial | (intro t ht w; cases ht; simp [upE]))); (case' dr2 => (intro w' hw' _; go_simp; with_reducible rfl)); (case' dh2 => (try simp only [Act.put, List.setIfInBounds_toArray, List.set_cons_zero, List.set_cons_succ]))); (refine' head_val ?dw3 ?de3 ?dr3 ?dh3; (case' dw3 => rfl); (case' de3 => (first | exact fun _ _ _ => trivial | (intro t ht w; cases ht; simp [upE]))); (case' dr3 => (intro w' hw' _; go_simp; with_reducible rfl)); (case' dh3 => (try simp only [Act.put, List.setIfInBounds_toArray, List.set_cons_zero, List.set_cons_succ]))); (refine' head_val ?dw4 ?de4 ?dr4 ?dh4; (case' dw4 => rfl); (case' de4 => (first | exact fun _ _ _ => trivial | (intro t ht w; cases ht; simp [upE]))); (case' dr4 => (intro w' hw' _; go_simp; with_reducible rfl)); (case' dh4 => (try simp only [Act.put, List.setIfInBounds_toArray, List.set_cons_zero, List.set_cons_succ]))); (refine' head_val ?dw5 ?de5 ?dr5 ?dh5; (case' dw5 => rfl); (case' de5 => (first | exact fun _ _ _ => trivial | (intro t ht w; cases ht; simp [upE]))); (case' dr5 => (intro w' hw' _; go_simp; with_reducible rfl)); (case' dh5 => (try simp only [Act.put, List.setIfInBounds_toArray, List.set_cons_zero, List.set_cons_succ])))
  (refine' head_load1 rfl ?_ rfl rfl P.out rfl Try.underlying3 rfl ?_; (first | exact fun _ _ _ => trivial | (intro t ht w; cases ht; simp [upE])); try simp only [Act.put, List.setIfInBounds_toArray, List.set_cons_zero, List.set_cons_succ])
  (refine' head_call ?cw6 ?ce6 ?cr6 ?cc6 ?ch6; (case' cw6 => rfl); (case' ce6 => (first | exact fun _ _ _ => trivial | (intro t ht w; cases ht; simp [upE]))); (case' cr6 => (intro w'; go_simp; first | exact ⟨rfl, rfl⟩ | with_reducible rfl)); (case' cc6 => (intro w' hw' _; exact HRL.out w')); (case' ch6 => (try simp only [Act.put, List.setIfInBounds_toArray, List.set_cons_zero, List.set_cons_succ])))
  (refine' head_val ?dw7 ?de7 ?dr7 ?dh7; (case' dw7 => rfl); (case' de7 => (first | exact fun _ _ _ => trivial | (intro t ht w; cases ht; simp [upE]))); (case' dr7 => (intro w' hw' _; go_simp; with_reducible rfl)); (case' dh7 => (try simp only [Act.put, List.setIfInBounds_toArray, List.set_cons_zero, List.set_cons_succ])))
  (refine' head_call ?cw8 ?ce8 ?cr8 ?cc8 ?ch8; (case' cw8 => rfl); (case' ce8 => (first | exact fun _ _ _ => trivial | (intro t ht w; cases ht; simp [upE]))); (case' cr8 => (intro w'; go_simp; first | exact ⟨rfl, rfl⟩ | with_reducible rfl)); (case' cc8 => (intro w' hw' _; exact HCL.out _ _ w' (R7.out.grow hw'))); (case' ch8 => (try simp only [Act.put, List.setIfInBounds_toArray, List.set_cons_zero, List.set_cons_succ])))
  (refine' head_call ?cw9 ?ce9 ?cr9 ?cc9 ?ch9; (case' cw9 => rfl); (case' ce9 => (first | exact fun _ _ _ => trivial | (intro t ht w; cases ht; simp [upE]))); (case' cr9 => (intro w'; go_simp; first | exact ⟨rfl, rfl⟩ | with_reducible rfl)); (case' cc9 => (intro w' hw' _; exact HKE.out w')); (case' ch9 => (try simp only [Act.put, List.setIfInBounds_toArray, List.set_cons_zero, List.set_cons_succ])))
  (refine' head_val ?dw10 ?de10 ?dr10 ?dh10; (case' dw10 => rfl); (case' de10 => (first | exact fun _ _ _ => trivial | (intro t ht w; cases ht; simp [upE]))); (case' dr10 => (intro w' hw' _; go_simp; with_reducible rfl)); (case' dh10 => (try simp only [Act.put, List.setIfInBounds_toArray, List.set_cons_zero, List.set_cons_succ]))); (refine' head_val ?dw11 ?de11 ?dr11 ?dh11; (case' dw11 => rfl); (case' de11 => (first | exact fun _ _ _ => trivial | (intro t ht w; cases ht; simp [upE]))); (case' dr11 => (intro w' hw' _; go_simp; with_reducible rfl)); (case' dh11 => (try simp only [Act.put, List.setIfInBounds_toArray, List.set_cons_zero, List.set_cons_succ]))); (refine' head_val ?dw12 ?de12 ?dr12 ?dh12; (case' dw12 => rfl); (case' de12 => (first | exact fun _ _ _ => trivial | (intro t ht w; cases ht; simp [upE]))); (case' dr12 => (intro w' hw' _; go_simp; with_reducible rfl)); (case' dh12 => (try simp only [Act.put, List.setIfInBounds_toArray, List.set_cons_zero, List.set_cons_succ])))
  (refine' head_new rfl rfl ?_; intro g9; try simp only [Act.put, List.setIfInBounds_toArray, List.set_cons_zero, List.set_cons_succ])
  have P9lt := hid (blk_lt P.out)
  have R7b := R7
  have HBs := hid HB.out.size
  refine head_nil ?_
  intro w8 hb hE
  have GW := hid hb
  replace HB := hid (Grow.trans HB.out hb)
  replace P := hid (grow_block P.out hb)
  replace R7 := hid (R7.out.grow hb)
  clear hb
  obtain ⟨hg9l, _, hg9⟩ := new_at (hE 9)
  have G9l := hid hg9l
  have G9 := hid (Nat.le_trans HBs.out hg9l)
  clear hE hg9l
  go_wp2_with (refine op_storeId (l := key) rfl rfl rfl rfl rfl hg9 (by rfl) LK.out ?_)
  intro wz hz9 hgb hbz
  have H9 := hid hz9
  have HB9 := hid (hbz _ _ HB.out G9.out)
  have P9 := hid (blk_other hgb P.out (by have := P9lt.out; have := G9l.out; omega))
  have R79 := hid (R7b.out.grow (hbz _ _ GW.out G9l.out))
  replace HB := HB9
  replace P := P9
  replace R7 := R79
  clear hg9 hz9 hgb hbz HB9 P9 R79 R7b GW
  go_wp2_with (first | (refine opG_loadB rfl rfl rfl P.out Try.underlying44 rfl rfl ?_) | (refine opG_load1 rfl rfl rfl P.out rfl Try.underlying3 rfl ?_) |  fail)
  refine (HOG.out _).mono ?_
  rintro e w5 ⟨rfl, hb⟩
  replace HB := hid (Grow.trans HB.out hb)
  replace P := hid (grow_block P.out hb)
  replace R7 := hid (R7.out.grow hb)
  replace H9 := hid (grow_block H9.out hb)
  clear hb
  go_wp2_with (first | (refine opG_loadB rfl rfl rfl P.out Try.underlying44 rfl rfl ?_) | (refine opG_load1 rfl rfl rfl P.out rfl Try.underlying3 rfl ?_) |  (refine op_allocstore (l := key) rfl rfl rfl rfl rfl rfl (fun _ => rfl) ⟨fun _ => rfl, LK.out⟩ ?_))
  intro g11 w6 hgl hgu hb hr
  have H11L := hid (Nat.le_trans HB.out.size hgl)
  replace HB := hid (Grow.trans HB.out hb)
  replace P := hid (grow_block P.out hb)
  replace R7 := hid (R7.out.grow hb)
  replace H9 := hid (grow_block H9.out hb)
  have H11 := hid hr; have H11U := hid hgu
  clear hr hgl hgu hb
  try simp only [Act.put, List.setIfInBounds_toArray, List.set_cons_zero, List.set_cons_succ]
  go_wp2_with (first | (refine opG_loadB rfl rfl rfl P.out Try.underlying44 rfl rfl ?_) | (refine opG_load1 rfl rfl rfl P.out rfl Try.underlying3 rfl ?_) |  fail)
  refine (HRW.out _).mono ?_
  rintro e w7 ⟨v, rfl, ho, hb⟩
  replace HB := hid (Grow.trans HB.out hb)
  replace P := hid (grow_block P.out hb)
  replace R7 := hid (R7.out.grow hb)
  replace H9 := hid (grow_block H9.out hb)
  replace H11 := hid (grow_block H11.out hb)
  clear hb
  obtain ⟨⟨A8, c8, rfl, hrow⟩, h32⟩ := ho.sl
  have R8 := hid hrow
  clear ho hrow h32
  go_wp2_with (first | (refine opG_loadB rfl rfl rfl P.out Try.underlying44 rfl rfl ?_) | (refine opG_load1 rfl rfl rfl P.out rfl Try.underlying3 rfl ?_) |  fail)
  refine (refSame A7 A8 _ _ c7 c8 _ _ _ R7.out R8.out rfl rfl W32.out W32.out).mono ?_
  rintro e w8 ⟨rfl, hb⟩
  replace HB := hid (Grow.trans HB.out hb)
  replace P := hid (grow_block P.out hb)
  replace R7 := hid (R7.out.grow hb)
  replace H9 := hid (grow_block H9.out hb)
  replace H11 := hid (grow_block H11.out hb)
  replace R8 := hid (R8.out.grow hb)
  clear hb
  rw [beq_self_eq_true]
  go_wp2_with (first | (refine opG_loadId rfl rfl rfl H9.out LK.out ?_) | (refine opG_loadId rfl rfl rfl H11.out LK.out ?_))
  refine (awake07 _).mono ?_
  rintro e w9 ⟨rfl, hb⟩
  replace HB := hid (Grow.trans HB.out hb)
  replace P := hid (grow_block P.out hb)
  replace R7 := hid (R7.out.grow hb)
  replace H9 := hid (grow_block H9.out hb)
  replace H11 := hid (grow_block H11.out hb)
  replace R8 := hid (R8.out.grow hb)
  clear hb
  go_wp2
  go_ret
  exact ⟨rfl, HB.out⟩
theorem keytreeWays (b h : Int) (seed : ByteArray) (hsz : seed.size ≤ 140737488351232) (leaf : Int) (w : World) :
    Calls Try.prog 6 #[.agg #[.int .i64 b, .int .i64 h], .string seed, .int .i64 leaf] w fun e w' => e = .returned (.bool true) ∧ Below w.heap.size w w' := by
  by_cases h100 : 100 < seed.size
  · exact keytreeWays_long b h seed hsz leaf h100 w
  · cases hk : ktB b h with
    | false => exact keytreeWays_bad b h seed hsz leaf h100 hk w
    | true =>
      cases hlg : (decide (16 < b) || decide (2 < h)) with
      | true => exact keytreeWays_large b h seed hsz leaf h100 (by rw [hk, hlg]; rfl) w
      | false =>
        by_cases hl : 0 ≤ leaf ∧ leaf < ((2 ^ h.toNat : Nat) : Int)
        · exact keytreeWays_good b h seed hsz leaf h100 hk (by rw [hk, hlg]; rfl) hl.1 hl.2 w
        · exact keytreeWays_out b h seed hsz leaf h100 hk (by rw [hk, hlg]; rfl) (by omega) w
end Go.Proofs.Ytffgifegaagndaa
