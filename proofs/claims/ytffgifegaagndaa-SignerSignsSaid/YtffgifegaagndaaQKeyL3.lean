/- The law KeytreeFolds: walk. -/
import Derived.Test.YtffgifegaagndaaQKeyC
import Derived.Test.YtffgifegaagndaaQKeyD
import Derived.Test.YtffgifegaagndaaQKeyD2
import Derived.Test.YtffgifegaagndaaQKeyD3
set_option linter.unusedSimpArgs false
set_option linter.unusedVariables false
namespace Go.Proofs.Ytffgifegaagndaa
open Go.RowKit
open Go.Qk hiding rotr b4
set_option maxHeartbeats 1000000
set_option maxRecDepth 100000
theorem id_neq_self (F : List UInt8) (hF : F.length = 32) (w : World) : (Go.binOp .neq 23 (idV F) (idV F)).run Try.prog w = .ok (.bool false) w := by
  rw [id_neq F F hF hF w, beq_self_eq_true]
  rfl
theorem refPairN (x y : IdK) (hx : x.length = 32) (hy : y.length = 32) (w : World) : Calls Try.prog 28 #[.string nodeName, idV x, idV y] w fun e w' => e = .returned (idV (nd x y)) ∧ Below w.heap.size w w' := refPair nodeName x y hx hy (by decide) w
theorem refClimbAll (leaf : Int) (L : Nat) (hL : max leaf 0 = (L : Int)) (hlm : leaf ≤ 9223372036854775807) (sum : IdK) (hs : sum.length = 32) (A : Option Addr) (n c : Nat) (way : List IdK) (w : World) (hx : IdRow w A way) (hn : way.length = n) (h32 : ∀ s ∈ way, s.length = 32) (hmax : n ≤ 1000000) :
    Calls Try.prog 26 #[.int .i64 leaf, idV sum, .slice A n c] w fun e w' => e = .returned (idV (climbTo L sum way)) ∧ Below w.heap.size w w' := by
  by_cases h : leaf < 0
  · obtain rfl : L = 0 := by omega
    exact refClimb7_neg leaf h sum hs A n c way w hx hn h32 hmax
  · obtain rfl : leaf = (L : Int) := by omega
    exact refClimb7 L hlm sum hs A n c way w hx hn h32 hmax
def badF (n : Nat) : Bool := n == 0 || bits .and .i64 (n : Int) ((n : Int) - 1) != 0
theorem good_pow : ∀ n : Fin 41, badF n.val = false → ∃ h : Fin 6, n.val = 2 ^ h.val := by decide +kernel
theorem bad_pow : ∀ n : Fin 41, badF n.val = true → ∀ k : Fin 7, 2 ^ k.val ≠ n.val := by decide +kernel
def vv (h i : Nat) : Nat := if i ≤ h then 2 ^ (h - i) else 0
theorem vv_step (h i : Nat) (hi : i ≤ h) : vv h (i + 1) = 2 ^ (h - i) / 2 := by
  unfold vv
  by_cases e : i + 1 ≤ h
  · rw [if_pos e, show h - i = (h - (i + 1)) + 1 by omega, Nat.pow_succ]
    omega
  · rw [if_neg e, show h - i = 0 by omega]
theorem keytreeFolds_long (A B : Option Addr) (n c m d : Nat) (xs way : List IdK) (leaf : Int) (hlm : leaf ≤ 9223372036854775807) (sum : IdK) (hs : sum.length = 32) (w : World) (hx : IdRow w A xs) (hy : IdRow w B way) (hn : xs.length = n) (hm : way.length = m) (h32 : ∀ s ∈ xs, s.length = 32) (k32 : ∀ s ∈ way, s.length = 32) (hnc : n ≤ c) (hlg : 40 < n ∨ 20 < m) :
    Calls Try.prog 4 #[.slice A n c, .int .i64 leaf, idV sum, .slice B m d] w fun e w' => e = .returned (.bool true) ∧ Below w.heap.size w w' := by
  have b1 : n ≤ 9223372036854775807 := by rw [← hn]; exact hx.1
  have b2 : m ≤ 9223372036854775807 := by rw [← hm]; exact hy.1
  clear hx hy hn hm h32 k32
  by_cases h1 : 40 < n
  · have t1 : decide ((40 : Int) < (n : Int)) = true := by simp; omega
    clear hlg
    go_enter Try.func4, Try.ntmps4
    have HB := hid (grow_refl w)
    apply wp_seq_k; intro _ _; apply wp_region_lit
    refine op_box (l := sum) rfl rfl rfl ?_
    intro g6 w1 hgl hgu hb hr
    have XL := hid (Nat.le_trans HB.out.size hgl)
    replace HB := hid (Grow.trans HB.out hb)
    have X := hid hr; have XU := hid hgu
    clear hr hgl hgu hb
    try simp only [Act.put, List.setIfInBounds_toArray, List.set_cons_zero, List.set_cons_succ]
    go_wp2_with (first |  fail)
    refine (awake07 _).mono ?_
    rintro e w2 ⟨rfl, hb⟩
    replace HB := hid (Grow.trans HB.out hb)
    replace X := hid (grow_block X.out hb)
    clear hb
    go_wp2
    go_ret
    exact ⟨rfl, HB.out⟩
  · have t1 : decide ((40 : Int) < (n : Int)) = false := by simp; omega
    have t2 : decide ((20 : Int) < (m : Int)) = true := by simp; omega
    clear hlg
    go_enter Try.func4, Try.ntmps4
    have HB := hid (grow_refl w)
    apply wp_seq_k; intro _ _; apply wp_region_lit
    refine op_box (l := sum) rfl rfl rfl ?_
    intro g6 w3 hgl hgu hb hr
    have XL := hid (Nat.le_trans HB.out.size hgl)
    replace HB := hid (Grow.trans HB.out hb)
    have X := hid hr; have XU := hid hgu
    clear hr hgl hgu hb
    try simp only [Act.put, List.setIfInBounds_toArray, List.set_cons_zero, List.set_cons_succ]
    go_wp2_with (first |  fail)
    refine (awake07 _).mono ?_
    rintro e w4 ⟨rfl, hb⟩
    replace HB := hid (Grow.trans HB.out hb)
    replace X := hid (grow_block X.out hb)
    clear hb
    go_wp2
    go_ret
    exact ⟨rfl, HB.out⟩
theorem keytreeFolds_bad (A B : Option Addr) (n c m d : Nat) (xs way : List IdK) (leaf : Int) (hlm : leaf ≤ 9223372036854775807) (sum : IdK) (hs : sum.length = 32) (w : World) (hx : IdRow w A xs) (hy : IdRow w B way) (hn : xs.length = n) (hm : way.length = m) (h32 : ∀ s ∈ xs, s.length = 32) (k32 : ∀ s ∈ way, s.length = 32) (hnc : n ≤ c) (hn40 : n ≤ 40) (hm20 : m ≤ 20) (hbad : badF n = true) :
    Calls Try.prog 4 #[.slice A n c, .int .i64 leaf, idV sum, .slice B m d] w fun e w' => e = .returned (.bool true) ∧ Below w.heap.size w w' := by
  obtain ⟨L, hL⟩ : ∃ L : Nat, max leaf 0 = (L : Int) := ⟨(max leaf 0).toNat, by omega⟩
  have HC1 := hid (fun w (hy : IdRow w B way) => ktClimb leaf L hL hlm sum hs B m d way w hy hm k32 (by omega))
  have HC2 := hid (fun w (hy : IdRow w B way) => refClimbAll leaf L hL hlm sum hs B m d way w hy hm k32 (by omega))
  have CL := hid (climbTo_length way L sum hs)
  generalize climbTo L sum way = cl at *
  have hq1 := id_neq_self cl CL.out
  have hq2 := id_guard .neq cl cl
  have HS := hid hs
  have HX := hid hx
  have HY := hid hy
  have HN := hid hn
  have H32 := hid h32
  have t1 : decide ((40 : Int) < (n : Int)) = false := by simp; omega
  have t2 : decide ((20 : Int) < (m : Int)) = false := by simp; omega
  have n1 : (n : Int) ≤ 40 := by omega
  have m1 : (m : Int) ≤ 20 := by omega
  have HF := hid (fun w => ktFold_bad A n c w (by simpa [badF] using hbad) (by omega))
  have HNP := hid (show ∀ k, k ≤ 6 → 2 ^ k ≠ n from fun k hk => bad_pow ⟨n, by omega⟩ hbad ⟨k, by omega⟩)
  have hq3 := id_eql_self (zero8 32) rfl
  have hq4 := id_guard .eql (zero8 32) (zero8 32)
  clear hx hy hn hm h32 k32 hs hL hlm hbad
  go_enter Try.func4, Try.ntmps4
  have HB := hid (grow_refl w)
  apply wp_seq_k; intro _ _; apply wp_region_lit
  refine op_box (l := sum) rfl rfl rfl ?_
  intro g6 w1 hgl hgu hb hr
  have XL := hid (Nat.le_trans HB.out.size hgl)
  replace HB := hid (Grow.trans HB.out hb)
  replace HX := hid (HX.out.grow hb)
  replace HY := hid (HY.out.grow hb)
  have X := hid hr; have XU := hid hgu
  clear hr hgl hgu hb
  try simp only [Act.put, List.setIfInBounds_toArray, List.set_cons_zero, List.set_cons_succ]
  go_wp2_with (first |  fail)
  refine (HF.out _).mono ?_
  rintro e w2 ⟨rfl, hb⟩
  replace HB := hid (Grow.trans HB.out hb)
  replace HX := hid (HX.out.grow hb)
  replace HY := hid (HY.out.grow hb)
  replace X := hid (grow_block X.out hb)
  clear hb
  go_wp2_with (first |  (refine op_allocstore (l := zero8 32) rfl rfl rfl rfl rfl rfl (fun _ => rfl) ⟨fun _ => rfl, rfl⟩ ?_))
  intro g9 w3 hgl hgu hb hr
  have H9L := hid (Nat.le_trans HB.out.size hgl)
  replace HB := hid (Grow.trans HB.out hb)
  replace HX := hid (HX.out.grow hb)
  replace HY := hid (HY.out.grow hb)
  replace X := hid (grow_block X.out hb)
  have H9 := hid hr; have H9U := hid hgu
  clear hr hgl hgu hb
  try simp only [Act.put, List.setIfInBounds_toArray, List.set_cons_zero, List.set_cons_succ]
  go_wp2_with fail
  (refine' wp_region_head 9 0 [_, _, _, _, _, _, _, _, _] rfl (by kernel_rfl) (by kernel_rfl) ?hreg1; case' hreg1 => simp only [List.take_succ_cons, List.take_zero, List.zip_cons_cons, List.zip_nil_right, List.drop_succ_cons, List.drop_zero, List.drop_nil])
  (refine' head_val ?dw2 ?de2 ?dr2 ?dh2; (case' dw2 => rfl); (case' de2 => (first | exact fun _ _ _ => trivial | (intro t ht w; cases ht; simp [upE]))); (case' dr2 => (intro w' hw' _; go_simp; with_reducible rfl)); (case' dh2 => (try simp only [Act.put, List.setIfInBounds_toArray, List.set_cons_zero, List.set_cons_succ])))
  (refine' head_loadId (x := _) rfl ?_ rfl rfl X.out (HS.out) ?_; (first | exact fun _ _ _ => trivial | (intro t ht w; cases ht; simp [upE])); try simp only [Act.put, List.setIfInBounds_toArray, List.set_cons_zero, List.set_cons_succ])
  (refine' head_val ?dw3 ?de3 ?dr3 ?dh3; (case' dw3 => rfl); (case' de3 => (first | exact fun _ _ _ => trivial | (intro t ht w; cases ht; simp [upE]))); (case' dr3 => (intro w' hw' _; go_simp; with_reducible rfl)); (case' dh3 => (try simp only [Act.put, List.setIfInBounds_toArray, List.set_cons_zero, List.set_cons_succ])))
  (refine' head_call ?cw4 ?ce4 ?cr4 ?cc4 ?ch4; (case' cw4 => rfl); (case' ce4 => (first | exact fun _ _ _ => trivial | (intro t ht w; cases ht; simp [upE]))); (case' cr4 => (intro w'; go_simp; first | exact ⟨rfl, rfl⟩ | with_reducible rfl)); (case' cc4 => (intro w' hw' _; exact HC1.out w' (HY.out.grow hw'))); (case' ch4 => (try simp only [Act.put, List.setIfInBounds_toArray, List.set_cons_zero, List.set_cons_succ])))
  (refine' head_val ?dw5 ?de5 ?dr5 ?dh5; (case' dw5 => rfl); (case' de5 => (first | exact fun _ _ _ => trivial | (intro t ht w; cases ht; simp [upE]))); (case' dr5 => (intro w' hw' _; go_simp; with_reducible rfl)); (case' dh5 => (try simp only [Act.put, List.setIfInBounds_toArray, List.set_cons_zero, List.set_cons_succ])))
  (refine' head_loadId (x := _) rfl ?_ rfl rfl X.out (HS.out) ?_; (first | exact fun _ _ _ => trivial | (intro t ht w; cases ht; simp [upE])); try simp only [Act.put, List.setIfInBounds_toArray, List.set_cons_zero, List.set_cons_succ])
  (refine' head_val ?dw6 ?de6 ?dr6 ?dh6; (case' dw6 => rfl); (case' de6 => (first | exact fun _ _ _ => trivial | (intro t ht w; cases ht; simp [upE]))); (case' dr6 => (intro w' hw' _; go_simp; with_reducible rfl)); (case' dh6 => (try simp only [Act.put, List.setIfInBounds_toArray, List.set_cons_zero, List.set_cons_succ])))
  (refine' head_call ?cw7 ?ce7 ?cr7 ?cc7 ?ch7; (case' cw7 => rfl); (case' ce7 => (first | exact fun _ _ _ => trivial | (intro t ht w; cases ht; simp [upE]))); (case' cr7 => (intro w'; go_simp; first | exact ⟨rfl, rfl⟩ | with_reducible rfl)); (case' cc7 => (intro w' hw' _; exact HC2.out w' (HY.out.grow hw'))); (case' ch7 => (try simp only [Act.put, List.setIfInBounds_toArray, List.set_cons_zero, List.set_cons_succ])))
  (refine' head_val ?dw8 ?de8 ?dr8 ?dh8; (case' dw8 => rfl); (case' de8 => (first | exact fun _ _ _ => trivial | (intro t ht w; cases ht; simp [upE]))); (case' dr8 => (intro w' hw' _; go_simp; with_reducible rfl)); (case' dh8 => (try simp only [Act.put, List.setIfInBounds_toArray, List.set_cons_zero, List.set_cons_succ])))
  refine head_nil ?_
  intro w4 hb _
  replace HB := hid (Grow.trans HB.out hb)
  replace HX := hid (HX.out.grow hb)
  replace HY := hid (HY.out.grow hb)
  replace X := hid (grow_block X.out hb)
  replace H9 := hid (grow_block H9.out hb)
  clear hb
  refine wpList_nil ?_
  clear hq1 hq2
  go_wp2_with fail
  go_loopg [11] 8 (fun z x wr => ∃ k : Nat, k ≤ 6 ∧ z = 8 - k ∧ x = .int .i64 ((2 ^ k : Nat) : Int) ∧ Hid (k = 0 ∨ 2 ^ (k - 1) < n) ∧ Hid (Grow w4 wr))
  case atStart => exact ⟨0, by omega, rfl, rfl, hid (.inl rfl), hid (grow_refl _)⟩
  case round =>
    obtain ⟨k, hk, hz, rfl, HK, HG⟩ := hrel
    replace HB := hid (Grow.trans HB.out HG.out)
    replace HX := hid (HX.out.grow HG.out)
    replace HY := hid (HY.out.grow HG.out)
    replace X := hid (grow_block X.out HG.out)
    replace H9 := hid (grow_block H9.out HG.out)
    by_cases hlt : 2 ^ k < n
    · have hk5 : k ≤ 5 := by
        refine Classical.byContradiction fun h => ?_
        obtain rfl : k = 6 := by omega
        have : (2 : Nat) ^ 6 = 64 := rfl
        omega
      have HE := hid (show ((2 ^ (k + 1) : Nat) : Int) = ((2 ^ k : Nat) : Int) * 2 by rw [Nat.pow_succ]; omega)
      have HK2 := hid (show k + 1 = 0 ∨ 2 ^ (k + 1 - 1) < n from .inr hlt)
      generalize 2 ^ k = v at *
      have v0 : (0 : Int) ≤ (v : Int) := by omega
      have v1 : (v : Int) ≤ 40 := by omega
      go_wp2_with fail
      go_roundg (8 - (k + 1))
      case rel => exact ⟨k + 1, by omega, by omega, by rw [HE.out], HK2, HG⟩
      case measure => omega
    · have hne : 2 ^ k ≠ n := HNP.out k hk
      generalize 2 ^ k = v at *
      by_cases hz0 : n = 0
      · have t3 : ((n : Int) == 0) = true := by simp; omega
        clear hne
        go_wp2_with (first | (refine opG_loadId rfl rfl rfl H9.out rfl ?_) | (refine opG_buildId rfl rfl ?_))
        refine (awake07 _).mono ?_
        rintro e w5 ⟨rfl, hb⟩
        replace HB := hid (Grow.trans HB.out hb)
        replace HX := hid (HX.out.grow hb)
        replace HY := hid (HY.out.grow hb)
        replace X := hid (grow_block X.out hb)
        replace H9 := hid (grow_block H9.out hb)
        clear hb
        go_wp2
        go_ret
        exact ⟨rfl, HB.out⟩
      · have t3 : ((n : Int) == 0) = false := by simp; omega
        have t4 : ((v : Int) != (n : Int)) = true := by simp; omega
        clear hne
        go_wp2_with (first | (refine opG_loadId rfl rfl rfl H9.out rfl ?_) | (refine opG_buildId rfl rfl ?_))
        refine (awake07 _).mono ?_
        rintro e w6 ⟨rfl, hb⟩
        replace HB := hid (Grow.trans HB.out hb)
        replace HX := hid (HX.out.grow hb)
        replace HY := hid (HY.out.grow hb)
        replace X := hid (grow_block X.out hb)
        replace H9 := hid (grow_block H9.out hb)
        clear hb
        go_wp2
        go_ret
        exact ⟨rfl, HB.out⟩
theorem keytreeFolds_good (A B : Option Addr) (n c m d : Nat) (xs way : List IdK) (leaf : Int) (hlm : leaf ≤ 9223372036854775807) (sum : IdK) (hs : sum.length = 32) (w : World) (hx : IdRow w A xs) (hy : IdRow w B way) (hn : xs.length = n) (hm : way.length = m) (h32 : ∀ s ∈ xs, s.length = 32) (k32 : ∀ s ∈ way, s.length = 32) (hnc : n ≤ c) (hn40 : n ≤ 40) (hm20 : m ≤ 20) (h : Nat) (hp : n = 2 ^ h) (hh : h ≤ 5) :
    Calls Try.prog 4 #[.slice A n c, .int .i64 leaf, idV sum, .slice B m d] w fun e w' => e = .returned (.bool true) ∧ Below w.heap.size w w' := by
  obtain ⟨L, hL⟩ : ∃ L : Nat, max leaf 0 = (L : Int) := ⟨(max leaf 0).toNat, by omega⟩
  have HC1 := hid (fun w (hy : IdRow w B way) => ktClimb leaf L hL hlm sum hs B m d way w hy hm k32 (by omega))
  have HC2 := hid (fun w (hy : IdRow w B way) => refClimbAll leaf L hL hlm sum hs B m d way w hy hm k32 (by omega))
  have CL := hid (climbTo_length way L sum hs)
  generalize climbTo L sum way = cl at *
  have hq1 := id_neq_self cl CL.out
  have hq2 := id_guard .neq cl cl
  have HS := hid hs
  have HX := hid hx
  have HY := hid hy
  have HN := hid hn
  have H32 := hid h32
  have t1 : decide ((40 : Int) < (n : Int)) = false := by simp; omega
  have t2 : decide ((20 : Int) < (m : Int)) = false := by simp; omega
  have n1 : (n : Int) ≤ 40 := by omega
  have m1 : (m : Int) ≤ 20 := by omega
  have HF := hid (fun w (hx : IdRow w A xs) => ktFold A n c h xs w hx hn hp (by omega) h32)
  have HF7 := hid (fun w (hx : IdRow w A xs) => refFold7 h A n c xs w hx hn hp hnc (by omega) h32)
  rw [foldRef_top h xs (by rw [hn, hp])] at HF7
  have LRT := hid (foldTop_32 h xs (by rw [hn, hp]) h32)
  have HFL := hid (foldRows_length h xs)
  have HFG := hid (fun i (hi : i ≤ h) => foldRows_get h xs i hi)
  have HUL := hid (fun i (hi : i ≤ h) => upN_length i (h - i) xs (by rw [hn, hp, show h - i + i = h by omega]))
  have HU32 := hid (fun i => upN_32 i xs h32)
  have HUS := hid (fun i => upN_succ i xs)
  have HTOP := hid (show (upN h xs).getD 0 [] = foldTop h xs from rfl)
  generalize foldTop h xs = root at *
  generalize foldRows h xs = rows at *
  have hq3 := id_neq_self root LRT.out
  have hq4 := id_guard .neq root root
  have HP2 := hid hp
  have HNC := hid hnc
  have h5 : (h : Int) ≤ 5 := by omega
  have n0 : 1 ≤ (n : Int) := by have := Nat.pow_pos (n := h) (show 0 < 2 by omega); omega
  clear hx hy hn hm h32 k32 hs hL hlm hp hnc
  go_enter Try.func4, Try.ntmps4
  have HB := hid (grow_refl w)
  apply wp_seq_k; intro _ _; apply wp_region_lit
  refine op_box (l := sum) rfl rfl rfl ?_
  intro g6 w1 hgl hgu hb hr
  have XL := hid (Nat.le_trans HB.out.size hgl)
  replace HB := hid (Grow.trans HB.out hb)
  replace HX := hid (HX.out.grow hb)
  replace HY := hid (HY.out.grow hb)
  have X := hid hr; have XU := hid hgu
  clear hr hgl hgu hb
  try simp only [Act.put, List.setIfInBounds_toArray, List.set_cons_zero, List.set_cons_succ]
  go_wp2_with (first |  fail)
  refine (HF.out _ HX.out).mono ?_
  rintro e w9 ⟨v, rfl, ho, hb⟩
  replace HB := hid (Grow.trans HB.out hb)
  replace HX := hid (HX.out.grow hb)
  replace HY := hid (HY.out.grow hb)
  replace X := hid (grow_block X.out hb)
  clear hb
  obtain ⟨A10, c10, rfl, hrs, hcap⟩ := ho.sl
  have hlen10 := HFL.out
  rw [hlen10]
  obtain ⟨ad10, rfl, hrs2⟩ := hrs.2 (by intro e; rw [e] at hlen10; simp at hlen10)
  have RS := hid hrs
  clear ho hrs hrs2 hcap hlen10
  go_wp2_with (first |  (refine op_allocstore (l := root) rfl rfl rfl rfl rfl rfl (fun _ => rfl) ⟨fun _ => rfl, LRT.out⟩ ?_))
  intro g9 w2 hgl hgu hb hr
  have H9L := hid (Nat.le_trans HB.out.size hgl)
  replace HB := hid (Grow.trans HB.out hb)
  replace HX := hid (HX.out.grow hb)
  replace HY := hid (HY.out.grow hb)
  replace X := hid (grow_block X.out hb)
  replace RS := hid (RS.out.grow hb)
  have H9 := hid hr; have H9U := hid hgu
  clear hr hgl hgu hb
  try simp only [Act.put, List.setIfInBounds_toArray, List.set_cons_zero, List.set_cons_succ]
  go_wp2_with fail
  (refine' wp_region_head 9 0 [_, _, _, _, _, _, _, _, _] rfl (by kernel_rfl) (by kernel_rfl) ?hreg9; case' hreg9 => simp only [List.take_succ_cons, List.take_zero, List.zip_cons_cons, List.zip_nil_right, List.drop_succ_cons, List.drop_zero, List.drop_nil])
  (refine' head_val ?dw10 ?de10 ?dr10 ?dh10; (case' dw10 => rfl); (case' de10 => (first | exact fun _ _ _ => trivial | (intro t ht w; cases ht; simp [upE]))); (case' dr10 => (intro w' hw' _; go_simp; with_reducible rfl)); (case' dh10 => (try simp only [Act.put, List.setIfInBounds_toArray, List.set_cons_zero, List.set_cons_succ])))
  (refine' head_loadId (x := _) rfl ?_ rfl rfl X.out (HS.out) ?_; (first | exact fun _ _ _ => trivial | (intro t ht w; cases ht; simp [upE])); try simp only [Act.put, List.setIfInBounds_toArray, List.set_cons_zero, List.set_cons_succ])
  (refine' head_val ?dw11 ?de11 ?dr11 ?dh11; (case' dw11 => rfl); (case' de11 => (first | exact fun _ _ _ => trivial | (intro t ht w; cases ht; simp [upE]))); (case' dr11 => (intro w' hw' _; go_simp; with_reducible rfl)); (case' dh11 => (try simp only [Act.put, List.setIfInBounds_toArray, List.set_cons_zero, List.set_cons_succ])))
  (refine' head_call ?cw12 ?ce12 ?cr12 ?cc12 ?ch12; (case' cw12 => rfl); (case' ce12 => (first | exact fun _ _ _ => trivial | (intro t ht w; cases ht; simp [upE]))); (case' cr12 => (intro w'; go_simp; first | exact ⟨rfl, rfl⟩ | with_reducible rfl)); (case' cc12 => (intro w' hw' _; exact HC1.out w' (HY.out.grow hw'))); (case' ch12 => (try simp only [Act.put, List.setIfInBounds_toArray, List.set_cons_zero, List.set_cons_succ])))
  (refine' head_val ?dw13 ?de13 ?dr13 ?dh13; (case' dw13 => rfl); (case' de13 => (first | exact fun _ _ _ => trivial | (intro t ht w; cases ht; simp [upE]))); (case' dr13 => (intro w' hw' _; go_simp; with_reducible rfl)); (case' dh13 => (try simp only [Act.put, List.setIfInBounds_toArray, List.set_cons_zero, List.set_cons_succ])))
  (refine' head_loadId (x := _) rfl ?_ rfl rfl X.out (HS.out) ?_; (first | exact fun _ _ _ => trivial | (intro t ht w; cases ht; simp [upE])); try simp only [Act.put, List.setIfInBounds_toArray, List.set_cons_zero, List.set_cons_succ])
  (refine' head_val ?dw14 ?de14 ?dr14 ?dh14; (case' dw14 => rfl); (case' de14 => (first | exact fun _ _ _ => trivial | (intro t ht w; cases ht; simp [upE]))); (case' dr14 => (intro w' hw' _; go_simp; with_reducible rfl)); (case' dh14 => (try simp only [Act.put, List.setIfInBounds_toArray, List.set_cons_zero, List.set_cons_succ])))
  (refine' head_call ?cw15 ?ce15 ?cr15 ?cc15 ?ch15; (case' cw15 => rfl); (case' ce15 => (first | exact fun _ _ _ => trivial | (intro t ht w; cases ht; simp [upE]))); (case' cr15 => (intro w'; go_simp; first | exact ⟨rfl, rfl⟩ | with_reducible rfl)); (case' cc15 => (intro w' hw' _; exact HC2.out w' (HY.out.grow hw'))); (case' ch15 => (try simp only [Act.put, List.setIfInBounds_toArray, List.set_cons_zero, List.set_cons_succ])))
  (refine' head_val ?dw16 ?de16 ?dr16 ?dh16; (case' dw16 => rfl); (case' de16 => (first | exact fun _ _ _ => trivial | (intro t ht w; cases ht; simp [upE]))); (case' dr16 => (intro w' hw' _; go_simp; with_reducible rfl)); (case' dh16 => (try simp only [Act.put, List.setIfInBounds_toArray, List.set_cons_zero, List.set_cons_succ])))
  refine head_nil ?_
  intro w3 hb _
  replace HB := hid (Grow.trans HB.out hb)
  replace HX := hid (HX.out.grow hb)
  replace HY := hid (HY.out.grow hb)
  replace X := hid (grow_block X.out hb)
  replace RS := hid (RS.out.grow hb)
  replace H9 := hid (grow_block H9.out hb)
  clear hb
  refine wpList_nil ?_
  clear hq1 hq2
  go_wp2_with fail
  go_loopg [11] 8 (fun z x wr => ∃ k : Nat, k ≤ 6 ∧ z = 8 - k ∧ x = .int .i64 ((2 ^ k : Nat) : Int) ∧ Hid (k = 0 ∨ 2 ^ (k - 1) < n) ∧ Hid (Grow w3 wr))
  case atStart => exact ⟨0, by omega, rfl, rfl, hid (.inl rfl), hid (grow_refl _)⟩
  case round =>
    obtain ⟨k, hk, hz, rfl, HK, HG⟩ := hrel
    replace HB := hid (Grow.trans HB.out HG.out)
    replace HX := hid (HX.out.grow HG.out)
    replace HY := hid (HY.out.grow HG.out)
    replace X := hid (grow_block X.out HG.out)
    replace RS := hid (RS.out.grow HG.out)
    replace H9 := hid (grow_block H9.out HG.out)
    by_cases hlt : 2 ^ k < n
    · have hk5 : k ≤ 5 := by
        refine Classical.byContradiction fun h => ?_
        obtain rfl : k = 6 := by omega
        have : (2 : Nat) ^ 6 = 64 := rfl
        omega
      have HE := hid (show ((2 ^ (k + 1) : Nat) : Int) = ((2 ^ k : Nat) : Int) * 2 by rw [Nat.pow_succ]; omega)
      have HK2 := hid (show k + 1 = 0 ∨ 2 ^ (k + 1 - 1) < n from .inr hlt)
      generalize 2 ^ k = v at *
      have v0 : (0 : Int) ≤ (v : Int) := by omega
      have v1 : (v : Int) ≤ 40 := by omega
      go_wp2_with fail
      go_roundg (8 - (k + 1))
      case rel => exact ⟨k + 1, by omega, by omega, by rw [HE.out], HK2, HG⟩
      case measure => omega
    · have hkh : 2 ^ k = n := by
        rcases HK.out with h0 | h0
        · subst h0; omega
        · rw [HP2.out] at h0 hlt ⊢
          have e1 : k - 1 < h := (Nat.pow_lt_pow_iff_right (by omega)).1 h0
          have e2 : ¬ k < h := fun hc => hlt ((Nat.pow_lt_pow_iff_right (by omega)).2 hc)
          by_cases hk0 : k = 0
          · subst hk0; omega
          · rw [show k = h by omega]
      rw [hkh]
      clear hlt hkh HK hk hz
      obtain ⟨ad10', e0, A0, c0, hcell0, hrow0⟩ := RS.out.at_ 0 (by rw [HFL.out]; omega)
      injection e0 with e0'
      subst e0'
      rw [HFG.out 0 (by omega)] at hcell0 hrow0
      have HC0 := hid (show wr.cell? ad10 = some (Value.slice A0 n c0) from by have e := hcell0; rw [show (upN 0 xs).length = n from HN.out] at e; exact e)
      have HR0 := hid (show IdRow wr A0 xs from hrow0)
      clear hcell0 hrow0
      have t3 : ((n : Int) == 0) = false := by simp; omega
      have th : (((h : Int) + 1) == 0) = false := by simp; omega
      go_wp2_with fail
      (refine' wp_region_head 17 0 [_, _, _, _, _, _, _, _, _, _, _, _, _, _, _, _, _] rfl (by kernel_rfl) (by kernel_rfl) ?hreg17; case' hreg17 => simp only [List.take_succ_cons, List.take_zero, List.zip_cons_cons, List.zip_nil_right, List.drop_succ_cons, List.drop_zero, List.drop_nil])
      (refine' head_loadId (x := _) rfl ?_ rfl rfl H9.out (LRT.out) ?_; (first | exact fun _ _ _ => trivial | (intro t ht w; cases ht; simp [upE])); try simp only [Act.put, List.setIfInBounds_toArray, List.set_cons_zero, List.set_cons_succ])
      (refine' head_val ?dw18 ?de18 ?dr18 ?dh18; (case' dw18 => rfl); (case' de18 => (first | exact fun _ _ _ => trivial | (intro t ht w; cases ht; simp [upE]))); (case' dr18 => (intro w' hw' _; go_simp; with_reducible rfl)); (case' dh18 => (try simp only [Act.put, List.setIfInBounds_toArray, List.set_cons_zero, List.set_cons_succ])))
      (refine' head_call ?cw19 ?ce19 ?cr19 ?cc19 ?ch19; (case' cw19 => rfl); (case' ce19 => (first | exact fun _ _ _ => trivial | (intro t ht w; cases ht; simp [upE]))); (case' cr19 => (intro w'; go_simp; first | exact ⟨rfl, rfl⟩ | with_reducible rfl)); (case' cc19 => (intro w' hw' _; exact HF7.out w' (HX.out.grow hw'))); (case' ch19 => (try simp only [Act.put, List.setIfInBounds_toArray, List.set_cons_zero, List.set_cons_succ])))
      (refine' head_val ?dw20 ?de20 ?dr20 ?dh20; (case' dw20 => rfl); (case' de20 => (first | exact fun _ _ _ => trivial | (intro t ht w; cases ht; simp [upE]))); (case' dr20 => (intro w' hw' _; go_simp; with_reducible rfl)); (case' dh20 => (try simp only [Act.put, List.setIfInBounds_toArray, List.set_cons_zero, List.set_cons_succ]))); (refine' head_val ?dw21 ?de21 ?dr21 ?dh21; (case' dw21 => rfl); (case' de21 => (first | exact fun _ _ _ => trivial | (intro t ht w; cases ht; simp [upE]))); (case' dr21 => (intro w' hw' _; go_simp; with_reducible rfl)); (case' dh21 => (try simp only [Act.put, List.setIfInBounds_toArray, List.set_cons_zero, List.set_cons_succ]))); (refine' head_val ?dw22 ?de22 ?dr22 ?dh22; (case' dw22 => rfl); (case' de22 => (first | exact fun _ _ _ => trivial | (intro t ht w; cases ht; simp [upE]))); (case' dr22 => (intro w' hw' _; go_simp; with_reducible rfl)); (case' dh22 => (try simp only [Act.put, List.setIfInBounds_toArray, List.set_cons_zero, List.set_cons_succ]))); (refine' head_val ?dw23 ?de23 ?dr23 ?dh23; (case' dw23 => rfl); (case' de23 => (first | exact fun _ _ _ => trivial | (intro t ht w; cases ht; simp [upE]))); (case' dr23 => (intro w' hw' _; go_simp; with_reducible rfl)); (case' dh23 => (try simp only [Act.put, List.setIfInBounds_toArray, List.set_cons_zero, List.set_cons_succ]))); (refine' head_val ?dw24 ?de24 ?dr24 ?dh24; (case' dw24 => rfl); (case' de24 => (first | exact fun _ _ _ => trivial | (intro t ht w; cases ht; simp [upE]))); (case' dr24 => (intro w' hw' _; go_simp; with_reducible rfl)); (case' dh24 => (try simp only [Act.put, List.setIfInBounds_toArray, List.set_cons_zero, List.set_cons_succ]))); (refine' head_val ?dw25 ?de25 ?dr25 ?dh25; (case' dw25 => rfl); (case' de25 => (first | exact fun _ _ _ => trivial | (intro t ht w; cases ht; simp [upE]))); (case' dr25 => (intro w' hw' _; go_simp; with_reducible rfl)); (case' dh25 => (try simp only [Act.put, List.setIfInBounds_toArray, List.set_cons_zero, List.set_cons_succ]))); (refine' head_val ?dw26 ?de26 ?dr26 ?dh26; (case' dw26 => rfl); (case' de26 => (first | exact fun _ _ _ => trivial | (intro t ht w; cases ht; simp [upE]))); (case' dr26 => (intro w' hw' _; go_simp; with_reducible rfl)); (case' dh26 => (try simp only [Act.put, List.setIfInBounds_toArray, List.set_cons_zero, List.set_cons_succ]))); (refine' head_val ?dw27 ?de27 ?dr27 ?dh27; (case' dw27 => rfl); (case' de27 => (first | exact fun _ _ _ => trivial | (intro t ht w; cases ht; simp [upE]))); (case' dr27 => (intro w' hw' _; go_simp; with_reducible rfl)); (case' dh27 => (try simp only [Act.put, List.setIfInBounds_toArray, List.set_cons_zero, List.set_cons_succ]))); (refine' head_val ?dw28 ?de28 ?dr28 ?dh28; (case' dw28 => rfl); (case' de28 => (first | exact fun _ _ _ => trivial | (intro t ht w; cases ht; simp [upE]))); (case' dr28 => (intro w' hw' _; go_simp; with_reducible rfl)); (case' dh28 => (try simp only [Act.put, List.setIfInBounds_toArray, List.set_cons_zero, List.set_cons_succ])))
      (refine' head_loadCell rfl ?_ rfl rfl (HC0.out) Try.underlying24 rfl ?_; (first | exact fun _ _ _ => trivial | (intro t ht w; cases ht; simp [upE])); try simp only [Act.put, List.setIfInBounds_toArray, List.set_cons_zero, List.set_cons_succ])
      (refine' head_val ?dw29 ?de29 ?dr29 ?dh29; (case' dw29 => rfl); (case' de29 => (first | exact fun _ _ _ => trivial | (intro t ht w; cases ht; simp [upE]))); (case' dr29 => (intro w' hw' _; go_simp; with_reducible rfl)); (case' dh29 => (try simp only [Act.put, List.setIfInBounds_toArray, List.set_cons_zero, List.set_cons_succ])))
      (refine' head_call ?cw30 ?ce30 ?cr30 ?cc30 ?ch30; (case' cw30 => rfl); (case' ce30 => (first | exact fun _ _ _ => trivial | (intro t ht w; cases ht; simp [upE]))); (case' cr30 => (intro w'; go_simp; first | exact ⟨rfl, rfl⟩ | with_reducible rfl)); (case' cc30 => (intro w' hw' _; exact refSame A0 A _ _ c0 c xs xs w' (HR0.out.grow hw') (HX.out.grow hw') HN.out HN.out H32.out H32.out)); (case' ch30 => (try simp only [Act.put, List.setIfInBounds_toArray, List.set_cons_zero, List.set_cons_succ])))
      rw [beq_self_eq_true]
      (refine' head_val ?dw31 ?de31 ?dr31 ?dh31; (case' dw31 => rfl); (case' de31 => (first | exact fun _ _ _ => trivial | (intro t ht w; cases ht; simp [upE]))); (case' dr31 => (intro w' hw' _; go_simp; with_reducible rfl)); (case' dh31 => (try simp only [Act.put, List.setIfInBounds_toArray, List.set_cons_zero, List.set_cons_succ]))); (refine' head_val ?dw32 ?de32 ?dr32 ?dh32; (case' dw32 => rfl); (case' de32 => (first | exact fun _ _ _ => trivial | (intro t ht w; cases ht; simp [upE]))); (case' dr32 => (intro w' hw' _; go_simp; with_reducible rfl)); (case' dh32 => (try simp only [Act.put, List.setIfInBounds_toArray, List.set_cons_zero, List.set_cons_succ])))
      clear HC0 HR0
      refine head_nil ?_
      intro w4 hb _
      replace HB := hid (Grow.trans HB.out hb)
      replace HX := hid (HX.out.grow hb)
      replace HY := hid (HY.out.grow hb)
      replace X := hid (grow_block X.out hb)
      replace RS := hid (RS.out.grow hb)
      replace H9 := hid (grow_block H9.out hb)
      clear hb
      refine wpList_nil ?_
      clear t3 th hq3 hq4
      go_wp2_with fail
      have HV0 := hid (show vv h 0 = n by rw [vv, if_pos (Nat.zero_le _), Nat.sub_zero, HP2.out])
      go_loopg [11, 83] (h + 2) (fun z x j wr => ∃ i : Nat, i ≤ h + 1 ∧ z = h + 2 - i ∧ x = .int .i64 ((vv h i : Nat) : Int) ∧ j = .int .i64 (i : Int) ∧ Hid (Grow w4 wr))
      case atStart => exact ⟨0, by omega, by omega, by rw [HV0.out], rfl, hid (grow_refl _)⟩
      case round =>
        obtain ⟨wo, rfl⟩ : ∃ wo : World, wo = wr := ⟨_, rfl⟩
        obtain ⟨i, hi, hz, rfl, rfl, HG1⟩ := hrel
        replace HB := hid (Grow.trans HB.out HG1.out)
        replace HX := hid (HX.out.grow HG1.out)
        replace HY := hid (HY.out.grow HG1.out)
        replace X := hid (grow_block X.out HG1.out)
        replace RS := hid (RS.out.grow HG1.out)
        replace H9 := hid (grow_block H9.out HG1.out)
        have HGo := hid (grow_refl wo)
        by_cases hlt : i ≤ h
        · have i0 : (0 : Int) ≤ (i : Int) := by omega
          have i1 : (i : Int) < (h : Int) + 1 := by omega
          obtain ⟨adx, e0, Ai, ci, hcell, hrow⟩ := RS.out.at_ i (by rw [HFL.out]; omega)
          injection e0 with e0'
          subst e0'
          rw [HFG.out i hlt] at hcell hrow
          obtain ⟨li, hli⟩ : ∃ li, li = upN i xs := ⟨_, rfl⟩
          rw [← hli] at hcell hrow
          have HLX := hid hli
          have hll : li.length = 2 ^ (h - i) := by rw [hli]; exact HUL.out i hlt
          obtain ⟨p, hp⟩ : ∃ p, p = 2 ^ (h - i) := ⟨_, rfl⟩
          have HPV := hid hp
          rw [← hp] at hll
          rw [hll] at hcell
          have HLI := hid hll
          have HVS := hid (show vv h (i + 1) = p / 2 by rw [vv_step h i hlt, hp])
          have hvp : vv h i = p := by rw [vv, if_pos hlt, hp]
          rw [hvp]
          have hp0 : 1 ≤ p := by rw [hp]; exact Nat.pow_pos (by omega)
          have hp32 : p ≤ 2 ^ 5 := by rw [hp]; exact Nat.pow_le_pow_right (by omega) (by omega)
          have p1 : 1 ≤ (p : Int) := by omega
          have p0n : 0 < p := by omega
          have whh : IntKind.i64.wrap (h : Int) = (h : Int) := IntWalk.i64_in _ (by omega)
          have p2 : (p : Int) ≤ 32 := by omega
          obtain ⟨adi, hAi, hci⟩ := hrow.2 (by intro e; rw [e] at hll; simp at hll; omega)
          subst hAi
          have HRC := hid hci
          have hq3 := id_neq_self root LRT.out
          have hq4 := id_guard .neq root root
          clear hli hll hp hvp hp32 hrow
          by_cases hih : i = h
          · by_cases hi0 : i = 0
            · have hx1 := hi0
              have tI : decide (0 < i) = false := by simp; omega
              have tp : ((p : Int) == 1) = true := by have := HPV.out; rw [hih, Nat.sub_self] at this; simp; omega
              have hlst : ((i : Int) != (h : Int)) = false := by simp; omega
              have HRT0 := hid (show li.getD 0 [] = root by rw [HLX.out, hih]; exact HTOP.out)
              have HCI := hid (show ∀ j v, (u8s root)[j]? = some v → wo.cell? (adi.add j) = some v from fun j v hv => hci 0 (by have := HLI.out; omega) j v (by rw [HRT0.out]; exact hv))
              clear hci hih hi0 hx1
              go_wp2_with fail
              (refine' wp_region_head 22 0 [_, _, _, _, _, _, _, _, _, _, _, _, _, _, _, _, _, _, _, _, _, _] rfl (by kernel_rfl) (by kernel_rfl) ?hreg33; case' hreg33 => simp only [List.take_succ_cons, List.take_zero, List.zip_cons_cons, List.zip_nil_right, List.drop_succ_cons, List.drop_zero, List.drop_nil])
              (refine' head_val ?dw34 ?de34 ?dr34 ?dh34; (case' dw34 => rfl); (case' de34 => (first | exact fun _ _ _ => trivial | (intro t ht w; cases ht; simp [upE]))); (case' dr34 => (intro w' hw' _; go_simp; with_reducible rfl)); (case' dh34 => (try simp only [Act.put, List.setIfInBounds_toArray, List.set_cons_zero, List.set_cons_succ]))); (refine' head_val ?dw35 ?de35 ?dr35 ?dh35; (case' dw35 => rfl); (case' de35 => (first | exact fun _ _ _ => trivial | (intro t ht w; cases ht; simp [upE]))); (case' dr35 => (intro w' hw' _; go_simp; with_reducible rfl)); (case' dh35 => (try simp only [Act.put, List.setIfInBounds_toArray, List.set_cons_zero, List.set_cons_succ]))); (refine' head_val ?dw36 ?de36 ?dr36 ?dh36; (case' dw36 => rfl); (case' de36 => (first | exact fun _ _ _ => trivial | (intro t ht w; cases ht; simp [upE]))); (case' dr36 => (intro w' hw' _; go_simp; with_reducible rfl)); (case' dh36 => (try simp only [Act.put, List.setIfInBounds_toArray, List.set_cons_zero, List.set_cons_succ]))); (refine' head_val ?dw37 ?de37 ?dr37 ?dh37; (case' dw37 => rfl); (case' de37 => (first | exact fun _ _ _ => trivial | (intro t ht w; cases ht; simp [upE]))); (case' dr37 => (intro w' hw' _; go_simp; with_reducible rfl)); (case' dh37 => (try simp only [Act.put, List.setIfInBounds_toArray, List.set_cons_zero, List.set_cons_succ]))); (refine' head_val ?dw38 ?de38 ?dr38 ?dh38; (case' dw38 => rfl); (case' de38 => (first | exact fun _ _ _ => trivial | (intro t ht w; cases ht; simp [upE]))); (case' dr38 => (intro w' hw' _; go_simp; with_reducible rfl)); (case' dh38 => (try simp only [Act.put, List.setIfInBounds_toArray, List.set_cons_zero, List.set_cons_succ]))); (refine' head_val ?dw39 ?de39 ?dr39 ?dh39; (case' dw39 => rfl); (case' de39 => (first | exact fun _ _ _ => trivial | (intro t ht w; cases ht; simp [upE]))); (case' dr39 => (intro w' hw' _; go_simp; with_reducible rfl)); (case' dh39 => (try simp only [Act.put, List.setIfInBounds_toArray, List.set_cons_zero, List.set_cons_succ]))); (refine' head_val ?dw40 ?de40 ?dr40 ?dh40; (case' dw40 => rfl); (case' de40 => (first | exact fun _ _ _ => trivial | (intro t ht w; cases ht; simp [upE]))); (case' dr40 => (intro w' hw' _; go_simp; with_reducible rfl)); (case' dh40 => (try simp only [Act.put, List.setIfInBounds_toArray, List.set_cons_zero, List.set_cons_succ]))); (refine' head_val ?dw41 ?de41 ?dr41 ?dh41; (case' dw41 => rfl); (case' de41 => (first | exact fun _ _ _ => trivial | (intro t ht w; cases ht; simp [upE]))); (case' dr41 => (intro w' hw' _; go_simp; with_reducible rfl)); (case' dh41 => (try simp only [Act.put, List.setIfInBounds_toArray, List.set_cons_zero, List.set_cons_succ]))); (refine' head_val ?dw42 ?de42 ?dr42 ?dh42; (case' dw42 => rfl); (case' de42 => (first | exact fun _ _ _ => trivial | (intro t ht w; cases ht; simp [upE]))); (case' dr42 => (intro w' hw' _; go_simp; with_reducible rfl)); (case' dh42 => (try simp only [Act.put, List.setIfInBounds_toArray, List.set_cons_zero, List.set_cons_succ]))); (refine' head_val ?dw43 ?de43 ?dr43 ?dh43; (case' dw43 => rfl); (case' de43 => (first | exact fun _ _ _ => trivial | (intro t ht w; cases ht; simp [upE]))); (case' dr43 => (intro w' hw' _; go_simp; with_reducible rfl)); (case' dh43 => (try simp only [Act.put, List.setIfInBounds_toArray, List.set_cons_zero, List.set_cons_succ]))); (refine' head_val ?dw44 ?de44 ?dr44 ?dh44; (case' dw44 => rfl); (case' de44 => (first | exact fun _ _ _ => trivial | (intro t ht w; cases ht; simp [upE]))); (case' dr44 => (intro w' hw' _; go_simp; with_reducible rfl)); (case' dh44 => (try simp only [Act.put, List.setIfInBounds_toArray, List.set_cons_zero, List.set_cons_succ])))
              (refine' head_val (v := .int .i64 (h : Int)) ?dw45 ?de45 ?dr45 ?dh45; (case' dw45 => rfl); (case' de45 => (first | exact fun _ _ _ => trivial | (intro t ht w; cases ht; simp [upE]))); (case' dr45 => (intro w' hw' hE; (go_simp))); (case' dh45 => (try simp only [Act.put, List.setIfInBounds_toArray, List.set_cons_zero, List.set_cons_succ])))
              (refine' head_val (v := .bool false) ?dw46 ?de46 ?dr46 ?dh46; (case' dw46 => rfl); (case' de46 => (first | exact fun _ _ _ => trivial | (intro t ht w; cases ht; simp [upE]))); (case' dr46 => (intro w' hw' hE; (go_simp))); (case' dh46 => (try simp only [Act.put, List.setIfInBounds_toArray, List.set_cons_zero, List.set_cons_succ])))
              (refine' head_val ?dw47 ?de47 ?dr47 ?dh47; (case' dw47 => rfl); (case' de47 => (first | exact fun _ _ _ => trivial | (intro t ht w; cases ht; simp [upE]))); (case' dr47 => (intro w' hw' _; go_simp; with_reducible rfl)); (case' dh47 => (try simp only [Act.put, List.setIfInBounds_toArray, List.set_cons_zero, List.set_cons_succ]))); (refine' head_val ?dw48 ?de48 ?dr48 ?dh48; (case' dw48 => rfl); (case' de48 => (first | exact fun _ _ _ => trivial | (intro t ht w; cases ht; simp [upE]))); (case' dr48 => (intro w' hw' _; go_simp; with_reducible rfl)); (case' dh48 => (try simp only [Act.put, List.setIfInBounds_toArray, List.set_cons_zero, List.set_cons_succ]))); (refine' head_val ?dw49 ?de49 ?dr49 ?dh49; (case' dw49 => rfl); (case' de49 => (first | exact fun _ _ _ => trivial | (intro t ht w; cases ht; simp [upE]))); (case' dr49 => (intro w' hw' _; go_simp; with_reducible rfl)); (case' dh49 => (try simp only [Act.put, List.setIfInBounds_toArray, List.set_cons_zero, List.set_cons_succ])))
              (refine' head_loadAt (x := _) rfl ?_ rfl rfl (HCI.out) (LRT.out) ?_; (first | exact fun _ _ _ => trivial | (intro t ht w; cases ht; simp [upE])); try simp only [Act.put, List.setIfInBounds_toArray, List.set_cons_zero, List.set_cons_succ])
              (refine' head_loadId (x := _) rfl ?_ rfl rfl H9.out (LRT.out) ?_; (first | exact fun _ _ _ => trivial | (intro t ht w; cases ht; simp [upE])); try simp only [Act.put, List.setIfInBounds_toArray, List.set_cons_zero, List.set_cons_succ])
              (refine' head_val (v := .bool false) ?dw50 ?de50 ?dr50 ?dh50; (case' dw50 => rfl); (case' de50 => (first | exact fun _ _ _ => trivial | (intro t ht w; cases ht; simp [upE]))); (case' dr50 => (intro w' hw' hE; (go_simp))); (case' dh50 => (try simp only [Act.put, List.setIfInBounds_toArray, List.set_cons_zero, List.set_cons_succ])))
              (refine' head_val (v := .bool false) ?dw51 ?de51 ?dr51 ?dh51; (case' dw51 => rfl); (case' de51 => (first | exact fun _ _ _ => trivial | (intro t ht w; cases ht; simp [upE]))); (case' dr51 => (intro w' hw' hE; (go_simp))); (case' dh51 => (try simp only [Act.put, List.setIfInBounds_toArray, List.set_cons_zero, List.set_cons_succ])))
              (refine' head_val (v := .bool false) ?dw52 ?de52 ?dr52 ?dh52; (case' dw52 => rfl); (case' de52 => (first | exact fun _ _ _ => trivial | (intro t ht w; cases ht; simp [upE]))); (case' dr52 => (intro w' hw' hE; (go_simp))); (case' dh52 => (try simp only [Act.put, List.setIfInBounds_toArray, List.set_cons_zero, List.set_cons_succ])))
              (refine' head_val (v := .bool false) ?dw53 ?de53 ?dr53 ?dh53; (case' dw53 => rfl); (case' de53 => (first | exact fun _ _ _ => trivial | (intro t ht w; cases ht; simp [upE]))); (case' dr53 => (intro w' hw' hE; (go_simp))); (case' dh53 => (try simp only [Act.put, List.setIfInBounds_toArray, List.set_cons_zero, List.set_cons_succ])))
              refine head_nil ?_
              intro wq hb _
              replace HB := hid (Grow.trans HB.out hb)
              replace HX := hid (HX.out.grow hb)
              replace HY := hid (HY.out.grow hb)
              replace X := hid (grow_block X.out hb)
              replace RS := hid (RS.out.grow hb)
              replace H9 := hid (grow_block H9.out hb)
              replace HG1 := hid (Grow.trans HG1.out hb)
              replace HGo := hid (Grow.trans HGo.out hb)
              clear hb
              refine wpList_nil ?_
              clear hq3 hq4 tp hlst
              go_wp2_with fail
              go_loopg [112] (p + 1) (fun z2 x wr => ∃ k : Nat, k ≤ p ∧ z2 = p + 1 - k ∧ x = .int .i64 (k : Int) ∧ Hid (Grow wq wr))
              case atStart => exact ⟨0, by omega, by omega, rfl, hid (grow_refl _)⟩
              case round =>
                obtain ⟨k, hk, hz2, rfl, HG2⟩ := hrel
                replace HB := hid (Grow.trans HB.out HG2.out)
                replace HX := hid (HX.out.grow HG2.out)
                replace HY := hid (HY.out.grow HG2.out)
                replace X := hid (grow_block X.out HG2.out)
                replace RS := hid (RS.out.grow HG2.out)
                replace H9 := hid (grow_block H9.out HG2.out)
                replace HG1 := hid (Grow.trans HG1.out HG2.out)
                replace HGo := hid (Grow.trans HGo.out HG2.out)
                by_cases hkp : k < p
                · have k0 : (0 : Int) ≤ (k : Int) := by omega
                  have k1 : (k : Int) < (p : Int) := by omega
                  go_wp2_with fail
                  (refine' wp_region_head 29 0 [_, _, _, _, _, _, _, _, _, _, _, _, _, _, _, _, _, _, _, _, _, _, _, _, _, _, _, _, _] rfl (by kernel_rfl) (by kernel_rfl) ?hreg54; case' hreg54 => simp only [List.take_succ_cons, List.take_zero, List.zip_cons_cons, List.zip_nil_right, List.drop_succ_cons, List.drop_zero, List.drop_nil])
                  (refine' head_val ?dw55 ?de55 ?dr55 ?dh55; (case' dw55 => rfl); (case' de55 => (first | exact fun _ _ _ => trivial | (intro t ht w; cases ht; simp [upE]))); (case' dr55 => (intro w' hw' _; go_simp; with_reducible rfl)); (case' dh55 => (try simp only [Act.put, List.setIfInBounds_toArray, List.set_cons_zero, List.set_cons_succ]))); (refine' head_val ?dw56 ?de56 ?dr56 ?dh56; (case' dw56 => rfl); (case' de56 => (first | exact fun _ _ _ => trivial | (intro t ht w; cases ht; simp [upE]))); (case' dr56 => (intro w' hw' _; go_simp; with_reducible rfl)); (case' dh56 => (try simp only [Act.put, List.setIfInBounds_toArray, List.set_cons_zero, List.set_cons_succ]))); (refine' head_val ?dw57 ?de57 ?dr57 ?dh57; (case' dw57 => rfl); (case' de57 => (first | exact fun _ _ _ => trivial | (intro t ht w; cases ht; simp [upE]))); (case' dr57 => (intro w' hw' _; go_simp; with_reducible rfl)); (case' dh57 => (try simp only [Act.put, List.setIfInBounds_toArray, List.set_cons_zero, List.set_cons_succ])))
                  (refine' head_skip (V := fun _ _ => True) ?sw58 ?se58 ?sh58; (case' sw58 => rfl); (case' se58 => (first | exact fun _ _ _ => trivial | (intro t ht w; cases ht; simp [upE]))); (case' sh58 => (try simp only [Act.put, List.setIfInBounds_toArray, List.set_cons_zero, List.set_cons_succ]))); (refine' head_skip (V := fun _ _ => True) ?sw59 ?se59 ?sh59; (case' sw59 => rfl); (case' se59 => (first | exact fun _ _ _ => trivial | (intro t ht w; cases ht; simp [upE]))); (case' sh59 => (try simp only [Act.put, List.setIfInBounds_toArray, List.set_cons_zero, List.set_cons_succ]))); (refine' head_skip (V := fun _ _ => True) ?sw60 ?se60 ?sh60; (case' sw60 => rfl); (case' se60 => (first | exact fun _ _ _ => trivial | (intro t ht w; cases ht; simp [upE]))); (case' sh60 => (try simp only [Act.put, List.setIfInBounds_toArray, List.set_cons_zero, List.set_cons_succ]))); (refine' head_skip (V := fun _ _ => True) ?sw61 ?se61 ?sh61; (case' sw61 => rfl); (case' se61 => (first | exact fun _ _ _ => trivial | (intro t ht w; cases ht; simp [upE]))); (case' sh61 => (try simp only [Act.put, List.setIfInBounds_toArray, List.set_cons_zero, List.set_cons_succ]))); (refine' head_skip (V := fun _ _ => True) ?sw62 ?se62 ?sh62; (case' sw62 => rfl); (case' se62 => (first | exact fun _ _ _ => trivial | (intro t ht w; cases ht; simp [upE]))); (case' sh62 => (try simp only [Act.put, List.setIfInBounds_toArray, List.set_cons_zero, List.set_cons_succ]))); (refine' head_skip (V := fun _ _ => True) ?sw63 ?se63 ?sh63; (case' sw63 => rfl); (case' se63 => (first | exact fun _ _ _ => trivial | (intro t ht w; cases ht; simp [upE]))); (case' sh63 => (try simp only [Act.put, List.setIfInBounds_toArray, List.set_cons_zero, List.set_cons_succ]))); (refine' head_skip (V := fun _ _ => True) ?sw64 ?se64 ?sh64; (case' sw64 => rfl); (case' se64 => (first | exact fun _ _ _ => trivial | (intro t ht w; cases ht; simp [upE]))); (case' sh64 => (try simp only [Act.put, List.setIfInBounds_toArray, List.set_cons_zero, List.set_cons_succ]))); (refine' head_skip (V := fun _ _ => True) ?sw65 ?se65 ?sh65; (case' sw65 => rfl); (case' se65 => (first | exact fun _ _ _ => trivial | (intro t ht w; cases ht; simp [upE]))); (case' sh65 => (try simp only [Act.put, List.setIfInBounds_toArray, List.set_cons_zero, List.set_cons_succ]))); (refine' head_skip (V := fun _ _ => True) ?sw66 ?se66 ?sh66; (case' sw66 => rfl); (case' se66 => (first | exact fun _ _ _ => trivial | (intro t ht w; cases ht; simp [upE]))); (case' sh66 => (try simp only [Act.put, List.setIfInBounds_toArray, List.set_cons_zero, List.set_cons_succ]))); (refine' head_skip (V := fun _ _ => True) ?sw67 ?se67 ?sh67; (case' sw67 => rfl); (case' se67 => (first | exact fun _ _ _ => trivial | (intro t ht w; cases ht; simp [upE]))); (case' sh67 => (try simp only [Act.put, List.setIfInBounds_toArray, List.set_cons_zero, List.set_cons_succ]))); (refine' head_skip (V := fun _ _ => True) ?sw68 ?se68 ?sh68; (case' sw68 => rfl); (case' se68 => (first | exact fun _ _ _ => trivial | (intro t ht w; cases ht; simp [upE]))); (case' sh68 => (try simp only [Act.put, List.setIfInBounds_toArray, List.set_cons_zero, List.set_cons_succ]))); (refine' head_skip (V := fun _ _ => True) ?sw69 ?se69 ?sh69; (case' sw69 => rfl); (case' se69 => (first | exact fun _ _ _ => trivial | (intro t ht w; cases ht; simp [upE]))); (case' sh69 => (try simp only [Act.put, List.setIfInBounds_toArray, List.set_cons_zero, List.set_cons_succ]))); (refine' head_skip (V := fun _ _ => True) ?sw70 ?se70 ?sh70; (case' sw70 => rfl); (case' se70 => (first | exact fun _ _ _ => trivial | (intro t ht w; cases ht; simp [upE]))); (case' sh70 => (try simp only [Act.put, List.setIfInBounds_toArray, List.set_cons_zero, List.set_cons_succ]))); (refine' head_skip (V := fun _ _ => True) ?sw71 ?se71 ?sh71; (case' sw71 => rfl); (case' se71 => (first | exact fun _ _ _ => trivial | (intro t ht w; cases ht; simp [upE]))); (case' sh71 => (try simp only [Act.put, List.setIfInBounds_toArray, List.set_cons_zero, List.set_cons_succ]))); (refine' head_skip (V := fun _ _ => True) ?sw72 ?se72 ?sh72; (case' sw72 => rfl); (case' se72 => (first | exact fun _ _ _ => trivial | (intro t ht w; cases ht; simp [upE]))); (case' sh72 => (try simp only [Act.put, List.setIfInBounds_toArray, List.set_cons_zero, List.set_cons_succ]))); (refine' head_skip (V := fun _ _ => True) ?sw73 ?se73 ?sh73; (case' sw73 => rfl); (case' se73 => (first | exact fun _ _ _ => trivial | (intro t ht w; cases ht; simp [upE]))); (case' sh73 => (try simp only [Act.put, List.setIfInBounds_toArray, List.set_cons_zero, List.set_cons_succ]))); (refine' head_skip (V := fun _ _ => True) ?sw74 ?se74 ?sh74; (case' sw74 => rfl); (case' se74 => (first | exact fun _ _ _ => trivial | (intro t ht w; cases ht; simp [upE]))); (case' sh74 => (try simp only [Act.put, List.setIfInBounds_toArray, List.set_cons_zero, List.set_cons_succ]))); (refine' head_skip (V := fun _ _ => True) ?sw75 ?se75 ?sh75; (case' sw75 => rfl); (case' se75 => (first | exact fun _ _ _ => trivial | (intro t ht w; cases ht; simp [upE]))); (case' sh75 => (try simp only [Act.put, List.setIfInBounds_toArray, List.set_cons_zero, List.set_cons_succ]))); (refine' head_skip (V := fun _ _ => True) ?sw76 ?se76 ?sh76; (case' sw76 => rfl); (case' se76 => (first | exact fun _ _ _ => trivial | (intro t ht w; cases ht; simp [upE]))); (case' sh76 => (try simp only [Act.put, List.setIfInBounds_toArray, List.set_cons_zero, List.set_cons_succ]))); (refine' head_skip (V := fun _ _ => True) ?sw77 ?se77 ?sh77; (case' sw77 => rfl); (case' se77 => (first | exact fun _ _ _ => trivial | (intro t ht w; cases ht; simp [upE]))); (case' sh77 => (try simp only [Act.put, List.setIfInBounds_toArray, List.set_cons_zero, List.set_cons_succ]))); (refine' head_skip (V := fun _ _ => True) ?sw78 ?se78 ?sh78; (case' sw78 => rfl); (case' se78 => (first | exact fun _ _ _ => trivial | (intro t ht w; cases ht; simp [upE]))); (case' sh78 => (try simp only [Act.put, List.setIfInBounds_toArray, List.set_cons_zero, List.set_cons_succ]))); (refine' head_skip (V := fun _ _ => True) ?sw79 ?se79 ?sh79; (case' sw79 => rfl); (case' se79 => (first | exact fun _ _ _ => trivial | (intro t ht w; cases ht; simp [upE]))); (case' sh79 => (try simp only [Act.put, List.setIfInBounds_toArray, List.set_cons_zero, List.set_cons_succ]))); (refine' head_skip (V := fun _ _ => True) ?sw80 ?se80 ?sh80; (case' sw80 => rfl); (case' se80 => (first | exact fun _ _ _ => trivial | (intro t ht w; cases ht; simp [upE]))); (case' sh80 => (try simp only [Act.put, List.setIfInBounds_toArray, List.set_cons_zero, List.set_cons_succ]))); (refine' head_skip (V := fun _ _ => True) ?sw81 ?se81 ?sh81; (case' sw81 => rfl); (case' se81 => (first | exact fun _ _ _ => trivial | (intro t ht w; cases ht; simp [upE]))); (case' sh81 => (try simp only [Act.put, List.setIfInBounds_toArray, List.set_cons_zero, List.set_cons_succ]))); (refine' head_skip (V := fun _ _ => True) ?sw82 ?se82 ?sh82; (case' sw82 => rfl); (case' se82 => (first | exact fun _ _ _ => trivial | (intro t ht w; cases ht; simp [upE]))); (case' sh82 => (try simp only [Act.put, List.setIfInBounds_toArray, List.set_cons_zero, List.set_cons_succ])))
                  (refine' head_val ?dw83 ?de83 ?dr83 ?dh83; (case' dw83 => rfl); (case' de83 => (first | exact fun _ _ _ => trivial | (intro t ht w; cases ht; simp [upE]))); (case' dr83 => (intro w' hw' _; go_simp; with_reducible rfl)); (case' dh83 => (try simp only [Act.put, List.setIfInBounds_toArray, List.set_cons_zero, List.set_cons_succ])))
                  refine head_nil ?_
                  intro w5 hb _
                  replace HB := hid (Grow.trans HB.out hb)
                  replace HX := hid (HX.out.grow hb)
                  replace HY := hid (HY.out.grow hb)
                  replace X := hid (grow_block X.out hb)
                  replace RS := hid (RS.out.grow hb)
                  replace H9 := hid (grow_block H9.out hb)
                  replace HG1 := hid (Grow.trans HG1.out hb)
                  replace HGo := hid (Grow.trans HGo.out hb)
                  replace HG2 := hid (Grow.trans HG2.out hb)
                  clear hb
                  refine wpList_nil ?_
                  go_wp2_with fail
                  go_roundg (p + 1 - (k + 1))
                  case rel => exact ⟨k + 1, by omega, rfl, by go_num, HG2⟩
                  case measure => omega
                · obtain rfl : k = p := by omega
                  have hdv : (k : Int) / 2 = ((vv h (i + 1) : Nat) : Int) := by rw [HVS.out]; omega
                  go_wp2_with fail
                  go_roundg (h + 2 - (i + 1))
                  case rel => exact ⟨i + 1, by omega, by omega, rfl, by go_num, HG1⟩
                  case measure => omega
            · have hx1 := hi0
              have tI : decide (0 < i) = true := by simp; omega
              have tp : ((p : Int) == 1) = true := by have := HPV.out; rw [hih, Nat.sub_self] at this; simp; omega
              have hlst : ((i : Int) != (h : Int)) = false := by simp; omega
              have HRT0 := hid (show li.getD 0 [] = root by rw [HLX.out, hih]; exact HTOP.out)
              have HCI := hid (show ∀ j v, (u8s root)[j]? = some v → wo.cell? (adi.add j) = some v from fun j v hv => hci 0 (by have := HLI.out; omega) j v (by rw [HRT0.out]; exact hv))
              obtain ⟨i', hi'⟩ : ∃ i' : Nat, i = i' + 1 := ⟨i - 1, by omega⟩
              have him : (i : Int) - 1 = (i' : Int) := by omega
              obtain ⟨adx, e1, Ap, cp, hpcell, hprow⟩ := RS.out.at_ i' (by rw [HFL.out]; omega)
              injection e1 with e1'
              subst e1'
              rw [HFG.out i' (by omega)] at hpcell hprow
              obtain ⟨lp, hlp⟩ : ∃ lp, lp = upN i' xs := ⟨_, rfl⟩
              rw [← hlp] at hpcell hprow
              have HP32 := hid (show ∀ s ∈ lp, s.length = 32 from by rw [hlp]; exact HU32.out i')
              obtain ⟨pp, hpp⟩ : ∃ pp, pp = lp.length := ⟨_, rfl⟩
              have HPL := hid hpp
              have HPP := hid (show pp = 2 * p by rw [hpp, hlp, HUL.out i' (by omega), HPV.out, show h - i' = (h - i) + 1 by omega, Nat.pow_succ, Nat.mul_comm])
              have HUP := hid (show li = upRow lp by rw [HLX.out, hi', HUS.out, hlp])
              rw [← hpp] at hpcell
              obtain ⟨adp, hap, hpc⟩ := hprow.2 (by intro e; rw [e] at hpp; simp at hpp; have := HPP.out; omega)
              subst hap
              have HPC := hid hpc
              have HCELL := hid hpcell
              have pp1 : (pp : Int) ≤ 64 := by have := HPP.out; omega
              have i1p : (0 : Int) ≤ (i' : Int) := by omega
              have i2p : (i' : Int) < (h : Int) + 1 := by omega
              clear hlp hpp hpcell hprow hpc hi'
              clear hci hih hi0 hx1
              go_wp2_with fail
              (refine' wp_region_head 22 0 [_, _, _, _, _, _, _, _, _, _, _, _, _, _, _, _, _, _, _, _, _, _] rfl (by kernel_rfl) (by kernel_rfl) ?hreg84; case' hreg84 => simp only [List.take_succ_cons, List.take_zero, List.zip_cons_cons, List.zip_nil_right, List.drop_succ_cons, List.drop_zero, List.drop_nil])
              (refine' head_val ?dw85 ?de85 ?dr85 ?dh85; (case' dw85 => rfl); (case' de85 => (first | exact fun _ _ _ => trivial | (intro t ht w; cases ht; simp [upE]))); (case' dr85 => (intro w' hw' _; go_simp; with_reducible rfl)); (case' dh85 => (try simp only [Act.put, List.setIfInBounds_toArray, List.set_cons_zero, List.set_cons_succ]))); (refine' head_val ?dw86 ?de86 ?dr86 ?dh86; (case' dw86 => rfl); (case' de86 => (first | exact fun _ _ _ => trivial | (intro t ht w; cases ht; simp [upE]))); (case' dr86 => (intro w' hw' _; go_simp; with_reducible rfl)); (case' dh86 => (try simp only [Act.put, List.setIfInBounds_toArray, List.set_cons_zero, List.set_cons_succ]))); (refine' head_val ?dw87 ?de87 ?dr87 ?dh87; (case' dw87 => rfl); (case' de87 => (first | exact fun _ _ _ => trivial | (intro t ht w; cases ht; simp [upE]))); (case' dr87 => (intro w' hw' _; go_simp; with_reducible rfl)); (case' dh87 => (try simp only [Act.put, List.setIfInBounds_toArray, List.set_cons_zero, List.set_cons_succ]))); (refine' head_val ?dw88 ?de88 ?dr88 ?dh88; (case' dw88 => rfl); (case' de88 => (first | exact fun _ _ _ => trivial | (intro t ht w; cases ht; simp [upE]))); (case' dr88 => (intro w' hw' _; go_simp; with_reducible rfl)); (case' dh88 => (try simp only [Act.put, List.setIfInBounds_toArray, List.set_cons_zero, List.set_cons_succ]))); (refine' head_val ?dw89 ?de89 ?dr89 ?dh89; (case' dw89 => rfl); (case' de89 => (first | exact fun _ _ _ => trivial | (intro t ht w; cases ht; simp [upE]))); (case' dr89 => (intro w' hw' _; go_simp; with_reducible rfl)); (case' dh89 => (try simp only [Act.put, List.setIfInBounds_toArray, List.set_cons_zero, List.set_cons_succ]))); (refine' head_val ?dw90 ?de90 ?dr90 ?dh90; (case' dw90 => rfl); (case' de90 => (first | exact fun _ _ _ => trivial | (intro t ht w; cases ht; simp [upE]))); (case' dr90 => (intro w' hw' _; go_simp; with_reducible rfl)); (case' dh90 => (try simp only [Act.put, List.setIfInBounds_toArray, List.set_cons_zero, List.set_cons_succ]))); (refine' head_val ?dw91 ?de91 ?dr91 ?dh91; (case' dw91 => rfl); (case' de91 => (first | exact fun _ _ _ => trivial | (intro t ht w; cases ht; simp [upE]))); (case' dr91 => (intro w' hw' _; go_simp; with_reducible rfl)); (case' dh91 => (try simp only [Act.put, List.setIfInBounds_toArray, List.set_cons_zero, List.set_cons_succ]))); (refine' head_val ?dw92 ?de92 ?dr92 ?dh92; (case' dw92 => rfl); (case' de92 => (first | exact fun _ _ _ => trivial | (intro t ht w; cases ht; simp [upE]))); (case' dr92 => (intro w' hw' _; go_simp; with_reducible rfl)); (case' dh92 => (try simp only [Act.put, List.setIfInBounds_toArray, List.set_cons_zero, List.set_cons_succ]))); (refine' head_val ?dw93 ?de93 ?dr93 ?dh93; (case' dw93 => rfl); (case' de93 => (first | exact fun _ _ _ => trivial | (intro t ht w; cases ht; simp [upE]))); (case' dr93 => (intro w' hw' _; go_simp; with_reducible rfl)); (case' dh93 => (try simp only [Act.put, List.setIfInBounds_toArray, List.set_cons_zero, List.set_cons_succ]))); (refine' head_val ?dw94 ?de94 ?dr94 ?dh94; (case' dw94 => rfl); (case' de94 => (first | exact fun _ _ _ => trivial | (intro t ht w; cases ht; simp [upE]))); (case' dr94 => (intro w' hw' _; go_simp; with_reducible rfl)); (case' dh94 => (try simp only [Act.put, List.setIfInBounds_toArray, List.set_cons_zero, List.set_cons_succ]))); (refine' head_val ?dw95 ?de95 ?dr95 ?dh95; (case' dw95 => rfl); (case' de95 => (first | exact fun _ _ _ => trivial | (intro t ht w; cases ht; simp [upE]))); (case' dr95 => (intro w' hw' _; go_simp; with_reducible rfl)); (case' dh95 => (try simp only [Act.put, List.setIfInBounds_toArray, List.set_cons_zero, List.set_cons_succ])))
              (refine' head_val (v := .int .i64 (h : Int)) ?dw96 ?de96 ?dr96 ?dh96; (case' dw96 => rfl); (case' de96 => (first | exact fun _ _ _ => trivial | (intro t ht w; cases ht; simp [upE]))); (case' dr96 => (intro w' hw' hE; (go_simp))); (case' dh96 => (try simp only [Act.put, List.setIfInBounds_toArray, List.set_cons_zero, List.set_cons_succ])))
              (refine' head_val (v := .bool false) ?dw97 ?de97 ?dr97 ?dh97; (case' dw97 => rfl); (case' de97 => (first | exact fun _ _ _ => trivial | (intro t ht w; cases ht; simp [upE]))); (case' dr97 => (intro w' hw' hE; (go_simp))); (case' dh97 => (try simp only [Act.put, List.setIfInBounds_toArray, List.set_cons_zero, List.set_cons_succ])))
              (refine' head_val ?dw98 ?de98 ?dr98 ?dh98; (case' dw98 => rfl); (case' de98 => (first | exact fun _ _ _ => trivial | (intro t ht w; cases ht; simp [upE]))); (case' dr98 => (intro w' hw' _; go_simp; with_reducible rfl)); (case' dh98 => (try simp only [Act.put, List.setIfInBounds_toArray, List.set_cons_zero, List.set_cons_succ]))); (refine' head_val ?dw99 ?de99 ?dr99 ?dh99; (case' dw99 => rfl); (case' de99 => (first | exact fun _ _ _ => trivial | (intro t ht w; cases ht; simp [upE]))); (case' dr99 => (intro w' hw' _; go_simp; with_reducible rfl)); (case' dh99 => (try simp only [Act.put, List.setIfInBounds_toArray, List.set_cons_zero, List.set_cons_succ]))); (refine' head_val ?dw100 ?de100 ?dr100 ?dh100; (case' dw100 => rfl); (case' de100 => (first | exact fun _ _ _ => trivial | (intro t ht w; cases ht; simp [upE]))); (case' dr100 => (intro w' hw' _; go_simp; with_reducible rfl)); (case' dh100 => (try simp only [Act.put, List.setIfInBounds_toArray, List.set_cons_zero, List.set_cons_succ])))
              (refine' head_loadAt (x := _) rfl ?_ rfl rfl (HCI.out) (LRT.out) ?_; (first | exact fun _ _ _ => trivial | (intro t ht w; cases ht; simp [upE])); try simp only [Act.put, List.setIfInBounds_toArray, List.set_cons_zero, List.set_cons_succ])
              (refine' head_loadId (x := _) rfl ?_ rfl rfl H9.out (LRT.out) ?_; (first | exact fun _ _ _ => trivial | (intro t ht w; cases ht; simp [upE])); try simp only [Act.put, List.setIfInBounds_toArray, List.set_cons_zero, List.set_cons_succ])
              (refine' head_val (v := .bool false) ?dw101 ?de101 ?dr101 ?dh101; (case' dw101 => rfl); (case' de101 => (first | exact fun _ _ _ => trivial | (intro t ht w; cases ht; simp [upE]))); (case' dr101 => (intro w' hw' hE; (go_simp))); (case' dh101 => (try simp only [Act.put, List.setIfInBounds_toArray, List.set_cons_zero, List.set_cons_succ])))
              (refine' head_val (v := .bool false) ?dw102 ?de102 ?dr102 ?dh102; (case' dw102 => rfl); (case' de102 => (first | exact fun _ _ _ => trivial | (intro t ht w; cases ht; simp [upE]))); (case' dr102 => (intro w' hw' hE; (go_simp))); (case' dh102 => (try simp only [Act.put, List.setIfInBounds_toArray, List.set_cons_zero, List.set_cons_succ])))
              (refine' head_val (v := .bool false) ?dw103 ?de103 ?dr103 ?dh103; (case' dw103 => rfl); (case' de103 => (first | exact fun _ _ _ => trivial | (intro t ht w; cases ht; simp [upE]))); (case' dr103 => (intro w' hw' hE; (go_simp))); (case' dh103 => (try simp only [Act.put, List.setIfInBounds_toArray, List.set_cons_zero, List.set_cons_succ])))
              (refine' head_val (v := .bool false) ?dw104 ?de104 ?dr104 ?dh104; (case' dw104 => rfl); (case' de104 => (first | exact fun _ _ _ => trivial | (intro t ht w; cases ht; simp [upE]))); (case' dr104 => (intro w' hw' hE; (go_simp))); (case' dh104 => (try simp only [Act.put, List.setIfInBounds_toArray, List.set_cons_zero, List.set_cons_succ])))
              refine head_nil ?_
              intro wq hb _
              replace HB := hid (Grow.trans HB.out hb)
              replace HX := hid (HX.out.grow hb)
              replace HY := hid (HY.out.grow hb)
              replace X := hid (grow_block X.out hb)
              replace RS := hid (RS.out.grow hb)
              replace H9 := hid (grow_block H9.out hb)
              replace HG1 := hid (Grow.trans HG1.out hb)
              replace HGo := hid (Grow.trans HGo.out hb)
              clear hb
              refine wpList_nil ?_
              clear hq3 hq4 tp hlst
              go_wp2_with fail
              go_loopg [112] (p + 1) (fun z2 x wr => ∃ k : Nat, k ≤ p ∧ z2 = p + 1 - k ∧ x = .int .i64 (k : Int) ∧ Hid (Grow wq wr))
              case atStart => exact ⟨0, by omega, by omega, rfl, hid (grow_refl _)⟩
              case round =>
                obtain ⟨k, hk, hz2, rfl, HG2⟩ := hrel
                replace HB := hid (Grow.trans HB.out HG2.out)
                replace HX := hid (HX.out.grow HG2.out)
                replace HY := hid (HY.out.grow HG2.out)
                replace X := hid (grow_block X.out HG2.out)
                replace RS := hid (RS.out.grow HG2.out)
                replace H9 := hid (grow_block H9.out HG2.out)
                replace HG1 := hid (Grow.trans HG1.out HG2.out)
                replace HGo := hid (Grow.trans HGo.out HG2.out)
                by_cases hkp : k < p
                · have k0 : (0 : Int) ≤ (k : Int) := by omega
                  have k1 : (k : Int) < (p : Int) := by omega
                  obtain ⟨a, ha⟩ : ∃ a : Nat, a = 2 * k := ⟨_, rfl⟩
                  obtain ⟨b, hbb⟩ : ∃ b : Nat, b = a + 1 := ⟨_, rfl⟩
                  have ha2 : 2 * (k : Int) = (a : Int) := by omega
                  have hb2 : (a : Int) + 1 = (b : Int) := by omega
                  have hp2 := HPP.out
                  have hpl := HPL.out
                  have a1 : (a : Int) < (pp : Int) := by omega
                  have b1 : (b : Int) < (pp : Int) := by omega
                  have wa : IntKind.i64.wrap (a : Int) = (a : Int) := IntWalk.i64_in _ (by omega)
                  have wb : IntKind.i64.wrap (b : Int) = (b : Int) := IntWalk.i64_in _ (by omega)
                  have wi : IntKind.i64.wrap (i' : Int) = (i' : Int) := IntWalk.i64_in _ (by omega)
                  have A32 := hid (getD_mem_len HP32.out (show a < lp.length by omega))
                  have B32 := hid (getD_mem_len HP32.out (show b < lp.length by omega))
                  have HCA := hid (HPC.out a (by omega))
                  have HCB := hid (HPC.out b (by omega))
                  have hck := HRC.out k (by rw [HLI.out]; exact hkp)
                  have HND := hid (show li.getD k [] = nd (lp.getD a []) (lp.getD b []) by rw [HUP.out, upRow_get _ _ (by omega), upG, ← ha, hbb])
                  rw [HND.out] at hck
                  have HCK := hid hck
                  have ND := hid (nd_length (lp.getD a []) (lp.getD b []))
                  generalize lp.getD a [] = xa at *
                  generalize lp.getD b [] = xb at *
                  have hq1 := id_neq_self (nd xa xb) ND.out
                  have hq2 := id_guard .neq (nd xa xb) (nd xa xb)
                  clear ha hbb hp2 hpl hck
                  go_wp2_with fail
                  (refine' wp_region_head 29 0 [_, _, _, _, _, _, _, _, _, _, _, _, _, _, _, _, _, _, _, _, _, _, _, _, _, _, _, _, _] rfl (by kernel_rfl) (by kernel_rfl) ?hreg105; case' hreg105 => simp only [List.take_succ_cons, List.take_zero, List.zip_cons_cons, List.zip_nil_right, List.drop_succ_cons, List.drop_zero, List.drop_nil])
                  (refine' head_val ?dw106 ?de106 ?dr106 ?dh106; (case' dw106 => rfl); (case' de106 => (first | exact fun _ _ _ => trivial | (intro t ht w; cases ht; simp [upE]))); (case' dr106 => (intro w' hw' _; go_simp; with_reducible rfl)); (case' dh106 => (try simp only [Act.put, List.setIfInBounds_toArray, List.set_cons_zero, List.set_cons_succ]))); (refine' head_val ?dw107 ?de107 ?dr107 ?dh107; (case' dw107 => rfl); (case' de107 => (first | exact fun _ _ _ => trivial | (intro t ht w; cases ht; simp [upE]))); (case' dr107 => (intro w' hw' _; go_simp; with_reducible rfl)); (case' dh107 => (try simp only [Act.put, List.setIfInBounds_toArray, List.set_cons_zero, List.set_cons_succ]))); (refine' head_val ?dw108 ?de108 ?dr108 ?dh108; (case' dw108 => rfl); (case' de108 => (first | exact fun _ _ _ => trivial | (intro t ht w; cases ht; simp [upE]))); (case' dr108 => (intro w' hw' _; go_simp; with_reducible rfl)); (case' dh108 => (try simp only [Act.put, List.setIfInBounds_toArray, List.set_cons_zero, List.set_cons_succ]))); (refine' head_val ?dw109 ?de109 ?dr109 ?dh109; (case' dw109 => rfl); (case' de109 => (first | exact fun _ _ _ => trivial | (intro t ht w; cases ht; simp [upE]))); (case' dr109 => (intro w' hw' _; go_simp; with_reducible rfl)); (case' dh109 => (try simp only [Act.put, List.setIfInBounds_toArray, List.set_cons_zero, List.set_cons_succ]))); (refine' head_val ?dw110 ?de110 ?dr110 ?dh110; (case' dw110 => rfl); (case' de110 => (first | exact fun _ _ _ => trivial | (intro t ht w; cases ht; simp [upE]))); (case' dr110 => (intro w' hw' _; go_simp; with_reducible rfl)); (case' dh110 => (try simp only [Act.put, List.setIfInBounds_toArray, List.set_cons_zero, List.set_cons_succ]))); (refine' head_val ?dw111 ?de111 ?dr111 ?dh111; (case' dw111 => rfl); (case' de111 => (first | exact fun _ _ _ => trivial | (intro t ht w; cases ht; simp [upE]))); (case' dr111 => (intro w' hw' _; go_simp; with_reducible rfl)); (case' dh111 => (try simp only [Act.put, List.setIfInBounds_toArray, List.set_cons_zero, List.set_cons_succ])))
                  (refine' head_loadAt (x := _) rfl ?_ rfl rfl (fun j v hv => grow_cell (HCK.out j v hv) HGo.out) (ND.out) ?_; (first | exact fun _ _ _ => trivial | (intro t ht w; cases ht; simp [upE])); try simp only [Act.put, List.setIfInBounds_toArray, List.set_cons_zero, List.set_cons_succ])
                  (refine' head_val ?dw112 ?de112 ?dr112 ?dh112; (case' dw112 => rfl); (case' de112 => (first | exact fun _ _ _ => trivial | (intro t ht w; cases ht; simp [upE]))); (case' dr112 => (intro w' hw' _; go_simp; with_reducible rfl)); (case' dh112 => (try simp only [Act.put, List.setIfInBounds_toArray, List.set_cons_zero, List.set_cons_succ]))); (refine' head_val ?dw113 ?de113 ?dr113 ?dh113; (case' dw113 => rfl); (case' de113 => (first | exact fun _ _ _ => trivial | (intro t ht w; cases ht; simp [upE]))); (case' dr113 => (intro w' hw' _; go_simp; with_reducible rfl)); (case' dh113 => (try simp only [Act.put, List.setIfInBounds_toArray, List.set_cons_zero, List.set_cons_succ]))); (refine' head_val ?dw114 ?de114 ?dr114 ?dh114; (case' dw114 => rfl); (case' de114 => (first | exact fun _ _ _ => trivial | (intro t ht w; cases ht; simp [upE]))); (case' dr114 => (intro w' hw' _; go_simp; with_reducible rfl)); (case' dh114 => (try simp only [Act.put, List.setIfInBounds_toArray, List.set_cons_zero, List.set_cons_succ]))); (refine' head_val ?dw115 ?de115 ?dr115 ?dh115; (case' dw115 => rfl); (case' de115 => (first | exact fun _ _ _ => trivial | (intro t ht w; cases ht; simp [upE]))); (case' dr115 => (intro w' hw' _; go_simp; with_reducible rfl)); (case' dh115 => (try simp only [Act.put, List.setIfInBounds_toArray, List.set_cons_zero, List.set_cons_succ])))
                  (refine' head_loadCell rfl ?_ rfl rfl (grow_cell HCELL.out HGo.out) Try.underlying24 rfl ?_; (first | exact fun _ _ _ => trivial | (intro t ht w; cases ht; simp [upE])); try simp only [Act.put, List.setIfInBounds_toArray, List.set_cons_zero, List.set_cons_succ])
                  (refine' head_val ?dw116 ?de116 ?dr116 ?dh116; (case' dw116 => rfl); (case' de116 => (first | exact fun _ _ _ => trivial | (intro t ht w; cases ht; simp [upE]))); (case' dr116 => (intro w' hw' _; go_simp; with_reducible rfl)); (case' dh116 => (try simp only [Act.put, List.setIfInBounds_toArray, List.set_cons_zero, List.set_cons_succ]))); (refine' head_val ?dw117 ?de117 ?dr117 ?dh117; (case' dw117 => rfl); (case' de117 => (first | exact fun _ _ _ => trivial | (intro t ht w; cases ht; simp [upE]))); (case' dr117 => (intro w' hw' _; go_simp; with_reducible rfl)); (case' dh117 => (try simp only [Act.put, List.setIfInBounds_toArray, List.set_cons_zero, List.set_cons_succ]))); (refine' head_val ?dw118 ?de118 ?dr118 ?dh118; (case' dw118 => rfl); (case' de118 => (first | exact fun _ _ _ => trivial | (intro t ht w; cases ht; simp [upE]))); (case' dr118 => (intro w' hw' _; go_simp; with_reducible rfl)); (case' dh118 => (try simp only [Act.put, List.setIfInBounds_toArray, List.set_cons_zero, List.set_cons_succ])))
                  (refine' head_loadAt (x := _) rfl ?_ rfl rfl (fun j v hv => grow_cell (HCA.out j v hv) HGo.out) (A32.out) ?_; (first | exact fun _ _ _ => trivial | (intro t ht w; cases ht; simp [upE])); try simp only [Act.put, List.setIfInBounds_toArray, List.set_cons_zero, List.set_cons_succ])
                  (refine' head_val ?dw119 ?de119 ?dr119 ?dh119; (case' dw119 => rfl); (case' de119 => (first | exact fun _ _ _ => trivial | (intro t ht w; cases ht; simp [upE]))); (case' dr119 => (intro w' hw' _; go_simp; with_reducible rfl)); (case' dh119 => (try simp only [Act.put, List.setIfInBounds_toArray, List.set_cons_zero, List.set_cons_succ]))); (refine' head_val ?dw120 ?de120 ?dr120 ?dh120; (case' dw120 => rfl); (case' de120 => (first | exact fun _ _ _ => trivial | (intro t ht w; cases ht; simp [upE]))); (case' dr120 => (intro w' hw' _; go_simp; with_reducible rfl)); (case' dh120 => (try simp only [Act.put, List.setIfInBounds_toArray, List.set_cons_zero, List.set_cons_succ]))); (refine' head_val ?dw121 ?de121 ?dr121 ?dh121; (case' dw121 => rfl); (case' de121 => (first | exact fun _ _ _ => trivial | (intro t ht w; cases ht; simp [upE]))); (case' dr121 => (intro w' hw' _; go_simp; with_reducible rfl)); (case' dh121 => (try simp only [Act.put, List.setIfInBounds_toArray, List.set_cons_zero, List.set_cons_succ]))); (refine' head_val ?dw122 ?de122 ?dr122 ?dh122; (case' dw122 => rfl); (case' de122 => (first | exact fun _ _ _ => trivial | (intro t ht w; cases ht; simp [upE]))); (case' dr122 => (intro w' hw' _; go_simp; with_reducible rfl)); (case' dh122 => (try simp only [Act.put, List.setIfInBounds_toArray, List.set_cons_zero, List.set_cons_succ])))
                  (refine' head_loadCell rfl ?_ rfl rfl (grow_cell HCELL.out HGo.out) Try.underlying24 rfl ?_; (first | exact fun _ _ _ => trivial | (intro t ht w; cases ht; simp [upE])); try simp only [Act.put, List.setIfInBounds_toArray, List.set_cons_zero, List.set_cons_succ])
                  (refine' head_val ?dw123 ?de123 ?dr123 ?dh123; (case' dw123 => rfl); (case' de123 => (first | exact fun _ _ _ => trivial | (intro t ht w; cases ht; simp [upE]))); (case' dr123 => (intro w' hw' _; go_simp; with_reducible rfl)); (case' dh123 => (try simp only [Act.put, List.setIfInBounds_toArray, List.set_cons_zero, List.set_cons_succ]))); (refine' head_val ?dw124 ?de124 ?dr124 ?dh124; (case' dw124 => rfl); (case' de124 => (first | exact fun _ _ _ => trivial | (intro t ht w; cases ht; simp [upE]))); (case' dr124 => (intro w' hw' _; go_simp; with_reducible rfl)); (case' dh124 => (try simp only [Act.put, List.setIfInBounds_toArray, List.set_cons_zero, List.set_cons_succ]))); (refine' head_val ?dw125 ?de125 ?dr125 ?dh125; (case' dw125 => rfl); (case' de125 => (first | exact fun _ _ _ => trivial | (intro t ht w; cases ht; simp [upE]))); (case' dr125 => (intro w' hw' _; go_simp; with_reducible rfl)); (case' dh125 => (try simp only [Act.put, List.setIfInBounds_toArray, List.set_cons_zero, List.set_cons_succ]))); (refine' head_val ?dw126 ?de126 ?dr126 ?dh126; (case' dw126 => rfl); (case' de126 => (first | exact fun _ _ _ => trivial | (intro t ht w; cases ht; simp [upE]))); (case' dr126 => (intro w' hw' _; go_simp; with_reducible rfl)); (case' dh126 => (try simp only [Act.put, List.setIfInBounds_toArray, List.set_cons_zero, List.set_cons_succ])))
                  (refine' head_loadAt (x := _) rfl ?_ rfl rfl (fun j v hv => grow_cell (HCB.out j v hv) HGo.out) (B32.out) ?_; (first | exact fun _ _ _ => trivial | (intro t ht w; cases ht; simp [upE])); try simp only [Act.put, List.setIfInBounds_toArray, List.set_cons_zero, List.set_cons_succ])
                  (refine' head_call ?cw127 ?ce127 ?cr127 ?cc127 ?ch127; (case' cw127 => rfl); (case' ce127 => (first | exact fun _ _ _ => trivial | (intro t ht w; cases ht; simp [upE]))); (case' cr127 => (intro w'; go_simp; first | exact ⟨rfl, rfl⟩ | with_reducible rfl)); (case' cc127 => (intro w' hw' _; exact refPairN xa xb A32.out B32.out w')); (case' ch127 => (try simp only [Act.put, List.setIfInBounds_toArray, List.set_cons_zero, List.set_cons_succ])))
                  (refine' head_val ?dw128 ?de128 ?dr128 ?dh128; (case' dw128 => rfl); (case' de128 => (first | exact fun _ _ _ => trivial | (intro t ht w; cases ht; simp [upE]))); (case' dr128 => (intro w' hw' _; go_simp; with_reducible rfl)); (case' dh128 => (try simp only [Act.put, List.setIfInBounds_toArray, List.set_cons_zero, List.set_cons_succ]))); (refine' head_val ?dw129 ?de129 ?dr129 ?dh129; (case' dw129 => rfl); (case' de129 => (first | exact fun _ _ _ => trivial | (intro t ht w; cases ht; simp [upE]))); (case' dr129 => (intro w' hw' _; go_simp; with_reducible rfl)); (case' dh129 => (try simp only [Act.put, List.setIfInBounds_toArray, List.set_cons_zero, List.set_cons_succ])))
                  refine head_nil ?_
                  intro w6 hb _
                  replace HB := hid (Grow.trans HB.out hb)
                  replace HX := hid (HX.out.grow hb)
                  replace HY := hid (HY.out.grow hb)
                  replace X := hid (grow_block X.out hb)
                  replace RS := hid (RS.out.grow hb)
                  replace H9 := hid (grow_block H9.out hb)
                  replace HG1 := hid (Grow.trans HG1.out hb)
                  replace HGo := hid (Grow.trans HGo.out hb)
                  replace HG2 := hid (Grow.trans HG2.out hb)
                  clear hb
                  refine wpList_nil ?_
                  clear hq1 hq2
                  go_wp2_with fail
                  go_roundg (p + 1 - (k + 1))
                  case rel => exact ⟨k + 1, by omega, rfl, by go_num, HG2⟩
                  case measure => omega
                · obtain rfl : k = p := by omega
                  have hdv : (k : Int) / 2 = ((vv h (i + 1) : Nat) : Int) := by rw [HVS.out]; omega
                  go_wp2_with fail
                  go_roundg (h + 2 - (i + 1))
                  case rel => exact ⟨i + 1, by omega, by omega, rfl, by go_num, HG1⟩
                  case measure => omega
          · by_cases hi0 : i = 0
            · have hx1 := hi0
              have tI : decide (0 < i) = false := by simp; omega
              have tp : ((p : Int) == 1) = false := by
                have e1 := HPV.out
                rw [show h - i = (h - i - 1) + 1 by omega, Nat.pow_succ] at e1
                have e2 := Nat.pow_pos (n := h - i - 1) (show 0 < 2 by omega)
                simp; omega
              clear hci hih hi0 hx1
              go_wp2_with fail
              (refine' wp_region_head 22 0 [_, _, _, _, _, _, _, _, _, _, _, _, _, _, _, _, _, _, _, _, _, _] rfl (by kernel_rfl) (by kernel_rfl) ?hreg130; case' hreg130 => simp only [List.take_succ_cons, List.take_zero, List.zip_cons_cons, List.zip_nil_right, List.drop_succ_cons, List.drop_zero, List.drop_nil])
              (refine' head_val ?dw131 ?de131 ?dr131 ?dh131; (case' dw131 => rfl); (case' de131 => (first | exact fun _ _ _ => trivial | (intro t ht w; cases ht; simp [upE]))); (case' dr131 => (intro w' hw' _; go_simp; with_reducible rfl)); (case' dh131 => (try simp only [Act.put, List.setIfInBounds_toArray, List.set_cons_zero, List.set_cons_succ]))); (refine' head_val ?dw132 ?de132 ?dr132 ?dh132; (case' dw132 => rfl); (case' de132 => (first | exact fun _ _ _ => trivial | (intro t ht w; cases ht; simp [upE]))); (case' dr132 => (intro w' hw' _; go_simp; with_reducible rfl)); (case' dh132 => (try simp only [Act.put, List.setIfInBounds_toArray, List.set_cons_zero, List.set_cons_succ]))); (refine' head_val ?dw133 ?de133 ?dr133 ?dh133; (case' dw133 => rfl); (case' de133 => (first | exact fun _ _ _ => trivial | (intro t ht w; cases ht; simp [upE]))); (case' dr133 => (intro w' hw' _; go_simp; with_reducible rfl)); (case' dh133 => (try simp only [Act.put, List.setIfInBounds_toArray, List.set_cons_zero, List.set_cons_succ]))); (refine' head_val ?dw134 ?de134 ?dr134 ?dh134; (case' dw134 => rfl); (case' de134 => (first | exact fun _ _ _ => trivial | (intro t ht w; cases ht; simp [upE]))); (case' dr134 => (intro w' hw' _; go_simp; with_reducible rfl)); (case' dh134 => (try simp only [Act.put, List.setIfInBounds_toArray, List.set_cons_zero, List.set_cons_succ]))); (refine' head_val ?dw135 ?de135 ?dr135 ?dh135; (case' dw135 => rfl); (case' de135 => (first | exact fun _ _ _ => trivial | (intro t ht w; cases ht; simp [upE]))); (case' dr135 => (intro w' hw' _; go_simp; with_reducible rfl)); (case' dh135 => (try simp only [Act.put, List.setIfInBounds_toArray, List.set_cons_zero, List.set_cons_succ]))); (refine' head_val ?dw136 ?de136 ?dr136 ?dh136; (case' dw136 => rfl); (case' de136 => (first | exact fun _ _ _ => trivial | (intro t ht w; cases ht; simp [upE]))); (case' dr136 => (intro w' hw' _; go_simp; with_reducible rfl)); (case' dh136 => (try simp only [Act.put, List.setIfInBounds_toArray, List.set_cons_zero, List.set_cons_succ]))); (refine' head_val ?dw137 ?de137 ?dr137 ?dh137; (case' dw137 => rfl); (case' de137 => (first | exact fun _ _ _ => trivial | (intro t ht w; cases ht; simp [upE]))); (case' dr137 => (intro w' hw' _; go_simp; with_reducible rfl)); (case' dh137 => (try simp only [Act.put, List.setIfInBounds_toArray, List.set_cons_zero, List.set_cons_succ]))); (refine' head_val ?dw138 ?de138 ?dr138 ?dh138; (case' dw138 => rfl); (case' de138 => (first | exact fun _ _ _ => trivial | (intro t ht w; cases ht; simp [upE]))); (case' dr138 => (intro w' hw' _; go_simp; with_reducible rfl)); (case' dh138 => (try simp only [Act.put, List.setIfInBounds_toArray, List.set_cons_zero, List.set_cons_succ])))
              (refine' head_skip (V := fun _ _ => True) ?sw139 ?se139 ?sh139; (case' sw139 => rfl); (case' se139 => (first | exact fun _ _ _ => trivial | (intro t ht w; cases ht; simp [upE]))); (case' sh139 => (try simp only [Act.put, List.setIfInBounds_toArray, List.set_cons_zero, List.set_cons_succ]))); (refine' head_skip (V := fun _ _ => True) ?sw140 ?se140 ?sh140; (case' sw140 => rfl); (case' se140 => (first | exact fun _ _ _ => trivial | (intro t ht w; cases ht; simp [upE]))); (case' sh140 => (try simp only [Act.put, List.setIfInBounds_toArray, List.set_cons_zero, List.set_cons_succ]))); (refine' head_skip (V := fun _ _ => True) ?sw141 ?se141 ?sh141; (case' sw141 => rfl); (case' se141 => (first | exact fun _ _ _ => trivial | (intro t ht w; cases ht; simp [upE]))); (case' sh141 => (try simp only [Act.put, List.setIfInBounds_toArray, List.set_cons_zero, List.set_cons_succ]))); (refine' head_skip (V := fun _ _ => True) ?sw142 ?se142 ?sh142; (case' sw142 => rfl); (case' se142 => (first | exact fun _ _ _ => trivial | (intro t ht w; cases ht; simp [upE]))); (case' sh142 => (try simp only [Act.put, List.setIfInBounds_toArray, List.set_cons_zero, List.set_cons_succ]))); (refine' head_skip (V := fun _ _ => True) ?sw143 ?se143 ?sh143; (case' sw143 => rfl); (case' se143 => (first | exact fun _ _ _ => trivial | (intro t ht w; cases ht; simp [upE]))); (case' sh143 => (try simp only [Act.put, List.setIfInBounds_toArray, List.set_cons_zero, List.set_cons_succ]))); (refine' head_skip (V := fun _ _ => True) ?sw144 ?se144 ?sh144; (case' sw144 => rfl); (case' se144 => (first | exact fun _ _ _ => trivial | (intro t ht w; cases ht; simp [upE]))); (case' sh144 => (try simp only [Act.put, List.setIfInBounds_toArray, List.set_cons_zero, List.set_cons_succ]))); (refine' head_skip (V := fun _ _ => True) ?sw145 ?se145 ?sh145; (case' sw145 => rfl); (case' se145 => (first | exact fun _ _ _ => trivial | (intro t ht w; cases ht; simp [upE]))); (case' sh145 => (try simp only [Act.put, List.setIfInBounds_toArray, List.set_cons_zero, List.set_cons_succ]))); (refine' head_skip (V := fun _ _ => True) ?sw146 ?se146 ?sh146; (case' sw146 => rfl); (case' se146 => (first | exact fun _ _ _ => trivial | (intro t ht w; cases ht; simp [upE]))); (case' sh146 => (try simp only [Act.put, List.setIfInBounds_toArray, List.set_cons_zero, List.set_cons_succ]))); (refine' head_skip (V := fun _ _ => True) ?sw147 ?se147 ?sh147; (case' sw147 => rfl); (case' se147 => (first | exact fun _ _ _ => trivial | (intro t ht w; cases ht; simp [upE]))); (case' sh147 => (try simp only [Act.put, List.setIfInBounds_toArray, List.set_cons_zero, List.set_cons_succ]))); (refine' head_skip (V := fun _ _ => True) ?sw148 ?se148 ?sh148; (case' sw148 => rfl); (case' se148 => (first | exact fun _ _ _ => trivial | (intro t ht w; cases ht; simp [upE]))); (case' sh148 => (try simp only [Act.put, List.setIfInBounds_toArray, List.set_cons_zero, List.set_cons_succ]))); (refine' head_skip (V := fun _ _ => True) ?sw149 ?se149 ?sh149; (case' sw149 => rfl); (case' se149 => (first | exact fun _ _ _ => trivial | (intro t ht w; cases ht; simp [upE]))); (case' sh149 => (try simp only [Act.put, List.setIfInBounds_toArray, List.set_cons_zero, List.set_cons_succ]))); (refine' head_skip (V := fun _ _ => True) ?sw150 ?se150 ?sh150; (case' sw150 => rfl); (case' se150 => (first | exact fun _ _ _ => trivial | (intro t ht w; cases ht; simp [upE]))); (case' sh150 => (try simp only [Act.put, List.setIfInBounds_toArray, List.set_cons_zero, List.set_cons_succ])))
              (refine' head_val ?dw151 ?de151 ?dr151 ?dh151; (case' dw151 => rfl); (case' de151 => (first | exact fun _ _ _ => trivial | (intro t ht w; cases ht; simp [upE]))); (case' dr151 => (intro w' hw' _; go_simp; with_reducible rfl)); (case' dh151 => (try simp only [Act.put, List.setIfInBounds_toArray, List.set_cons_zero, List.set_cons_succ]))); (refine' head_val ?dw152 ?de152 ?dr152 ?dh152; (case' dw152 => rfl); (case' de152 => (first | exact fun _ _ _ => trivial | (intro t ht w; cases ht; simp [upE]))); (case' dr152 => (intro w' hw' _; go_simp; with_reducible rfl)); (case' dh152 => (try simp only [Act.put, List.setIfInBounds_toArray, List.set_cons_zero, List.set_cons_succ])))
              refine head_nil ?_
              intro wq hb _
              replace HB := hid (Grow.trans HB.out hb)
              replace HX := hid (HX.out.grow hb)
              replace HY := hid (HY.out.grow hb)
              replace X := hid (grow_block X.out hb)
              replace RS := hid (RS.out.grow hb)
              replace H9 := hid (grow_block H9.out hb)
              replace HG1 := hid (Grow.trans HG1.out hb)
              replace HGo := hid (Grow.trans HGo.out hb)
              clear hb
              refine wpList_nil ?_
              clear hq3 hq4 tp
              go_wp2_with fail
              go_loopg [112] (p + 1) (fun z2 x wr => ∃ k : Nat, k ≤ p ∧ z2 = p + 1 - k ∧ x = .int .i64 (k : Int) ∧ Hid (Grow wq wr))
              case atStart => exact ⟨0, by omega, by omega, rfl, hid (grow_refl _)⟩
              case round =>
                obtain ⟨k, hk, hz2, rfl, HG2⟩ := hrel
                replace HB := hid (Grow.trans HB.out HG2.out)
                replace HX := hid (HX.out.grow HG2.out)
                replace HY := hid (HY.out.grow HG2.out)
                replace X := hid (grow_block X.out HG2.out)
                replace RS := hid (RS.out.grow HG2.out)
                replace H9 := hid (grow_block H9.out HG2.out)
                replace HG1 := hid (Grow.trans HG1.out HG2.out)
                replace HGo := hid (Grow.trans HGo.out HG2.out)
                by_cases hkp : k < p
                · have k0 : (0 : Int) ≤ (k : Int) := by omega
                  have k1 : (k : Int) < (p : Int) := by omega
                  go_wp2_with fail
                  (refine' wp_region_head 29 0 [_, _, _, _, _, _, _, _, _, _, _, _, _, _, _, _, _, _, _, _, _, _, _, _, _, _, _, _, _] rfl (by kernel_rfl) (by kernel_rfl) ?hreg153; case' hreg153 => simp only [List.take_succ_cons, List.take_zero, List.zip_cons_cons, List.zip_nil_right, List.drop_succ_cons, List.drop_zero, List.drop_nil])
                  (refine' head_val ?dw154 ?de154 ?dr154 ?dh154; (case' dw154 => rfl); (case' de154 => (first | exact fun _ _ _ => trivial | (intro t ht w; cases ht; simp [upE]))); (case' dr154 => (intro w' hw' _; go_simp; with_reducible rfl)); (case' dh154 => (try simp only [Act.put, List.setIfInBounds_toArray, List.set_cons_zero, List.set_cons_succ]))); (refine' head_val ?dw155 ?de155 ?dr155 ?dh155; (case' dw155 => rfl); (case' de155 => (first | exact fun _ _ _ => trivial | (intro t ht w; cases ht; simp [upE]))); (case' dr155 => (intro w' hw' _; go_simp; with_reducible rfl)); (case' dh155 => (try simp only [Act.put, List.setIfInBounds_toArray, List.set_cons_zero, List.set_cons_succ]))); (refine' head_val ?dw156 ?de156 ?dr156 ?dh156; (case' dw156 => rfl); (case' de156 => (first | exact fun _ _ _ => trivial | (intro t ht w; cases ht; simp [upE]))); (case' dr156 => (intro w' hw' _; go_simp; with_reducible rfl)); (case' dh156 => (try simp only [Act.put, List.setIfInBounds_toArray, List.set_cons_zero, List.set_cons_succ])))
                  (refine' head_skip (V := fun _ _ => True) ?sw157 ?se157 ?sh157; (case' sw157 => rfl); (case' se157 => (first | exact fun _ _ _ => trivial | (intro t ht w; cases ht; simp [upE]))); (case' sh157 => (try simp only [Act.put, List.setIfInBounds_toArray, List.set_cons_zero, List.set_cons_succ]))); (refine' head_skip (V := fun _ _ => True) ?sw158 ?se158 ?sh158; (case' sw158 => rfl); (case' se158 => (first | exact fun _ _ _ => trivial | (intro t ht w; cases ht; simp [upE]))); (case' sh158 => (try simp only [Act.put, List.setIfInBounds_toArray, List.set_cons_zero, List.set_cons_succ]))); (refine' head_skip (V := fun _ _ => True) ?sw159 ?se159 ?sh159; (case' sw159 => rfl); (case' se159 => (first | exact fun _ _ _ => trivial | (intro t ht w; cases ht; simp [upE]))); (case' sh159 => (try simp only [Act.put, List.setIfInBounds_toArray, List.set_cons_zero, List.set_cons_succ]))); (refine' head_skip (V := fun _ _ => True) ?sw160 ?se160 ?sh160; (case' sw160 => rfl); (case' se160 => (first | exact fun _ _ _ => trivial | (intro t ht w; cases ht; simp [upE]))); (case' sh160 => (try simp only [Act.put, List.setIfInBounds_toArray, List.set_cons_zero, List.set_cons_succ]))); (refine' head_skip (V := fun _ _ => True) ?sw161 ?se161 ?sh161; (case' sw161 => rfl); (case' se161 => (first | exact fun _ _ _ => trivial | (intro t ht w; cases ht; simp [upE]))); (case' sh161 => (try simp only [Act.put, List.setIfInBounds_toArray, List.set_cons_zero, List.set_cons_succ]))); (refine' head_skip (V := fun _ _ => True) ?sw162 ?se162 ?sh162; (case' sw162 => rfl); (case' se162 => (first | exact fun _ _ _ => trivial | (intro t ht w; cases ht; simp [upE]))); (case' sh162 => (try simp only [Act.put, List.setIfInBounds_toArray, List.set_cons_zero, List.set_cons_succ]))); (refine' head_skip (V := fun _ _ => True) ?sw163 ?se163 ?sh163; (case' sw163 => rfl); (case' se163 => (first | exact fun _ _ _ => trivial | (intro t ht w; cases ht; simp [upE]))); (case' sh163 => (try simp only [Act.put, List.setIfInBounds_toArray, List.set_cons_zero, List.set_cons_succ]))); (refine' head_skip (V := fun _ _ => True) ?sw164 ?se164 ?sh164; (case' sw164 => rfl); (case' se164 => (first | exact fun _ _ _ => trivial | (intro t ht w; cases ht; simp [upE]))); (case' sh164 => (try simp only [Act.put, List.setIfInBounds_toArray, List.set_cons_zero, List.set_cons_succ]))); (refine' head_skip (V := fun _ _ => True) ?sw165 ?se165 ?sh165; (case' sw165 => rfl); (case' se165 => (first | exact fun _ _ _ => trivial | (intro t ht w; cases ht; simp [upE]))); (case' sh165 => (try simp only [Act.put, List.setIfInBounds_toArray, List.set_cons_zero, List.set_cons_succ]))); (refine' head_skip (V := fun _ _ => True) ?sw166 ?se166 ?sh166; (case' sw166 => rfl); (case' se166 => (first | exact fun _ _ _ => trivial | (intro t ht w; cases ht; simp [upE]))); (case' sh166 => (try simp only [Act.put, List.setIfInBounds_toArray, List.set_cons_zero, List.set_cons_succ]))); (refine' head_skip (V := fun _ _ => True) ?sw167 ?se167 ?sh167; (case' sw167 => rfl); (case' se167 => (first | exact fun _ _ _ => trivial | (intro t ht w; cases ht; simp [upE]))); (case' sh167 => (try simp only [Act.put, List.setIfInBounds_toArray, List.set_cons_zero, List.set_cons_succ]))); (refine' head_skip (V := fun _ _ => True) ?sw168 ?se168 ?sh168; (case' sw168 => rfl); (case' se168 => (first | exact fun _ _ _ => trivial | (intro t ht w; cases ht; simp [upE]))); (case' sh168 => (try simp only [Act.put, List.setIfInBounds_toArray, List.set_cons_zero, List.set_cons_succ]))); (refine' head_skip (V := fun _ _ => True) ?sw169 ?se169 ?sh169; (case' sw169 => rfl); (case' se169 => (first | exact fun _ _ _ => trivial | (intro t ht w; cases ht; simp [upE]))); (case' sh169 => (try simp only [Act.put, List.setIfInBounds_toArray, List.set_cons_zero, List.set_cons_succ]))); (refine' head_skip (V := fun _ _ => True) ?sw170 ?se170 ?sh170; (case' sw170 => rfl); (case' se170 => (first | exact fun _ _ _ => trivial | (intro t ht w; cases ht; simp [upE]))); (case' sh170 => (try simp only [Act.put, List.setIfInBounds_toArray, List.set_cons_zero, List.set_cons_succ]))); (refine' head_skip (V := fun _ _ => True) ?sw171 ?se171 ?sh171; (case' sw171 => rfl); (case' se171 => (first | exact fun _ _ _ => trivial | (intro t ht w; cases ht; simp [upE]))); (case' sh171 => (try simp only [Act.put, List.setIfInBounds_toArray, List.set_cons_zero, List.set_cons_succ]))); (refine' head_skip (V := fun _ _ => True) ?sw172 ?se172 ?sh172; (case' sw172 => rfl); (case' se172 => (first | exact fun _ _ _ => trivial | (intro t ht w; cases ht; simp [upE]))); (case' sh172 => (try simp only [Act.put, List.setIfInBounds_toArray, List.set_cons_zero, List.set_cons_succ]))); (refine' head_skip (V := fun _ _ => True) ?sw173 ?se173 ?sh173; (case' sw173 => rfl); (case' se173 => (first | exact fun _ _ _ => trivial | (intro t ht w; cases ht; simp [upE]))); (case' sh173 => (try simp only [Act.put, List.setIfInBounds_toArray, List.set_cons_zero, List.set_cons_succ]))); (refine' head_skip (V := fun _ _ => True) ?sw174 ?se174 ?sh174; (case' sw174 => rfl); (case' se174 => (first | exact fun _ _ _ => trivial | (intro t ht w; cases ht; simp [upE]))); (case' sh174 => (try simp only [Act.put, List.setIfInBounds_toArray, List.set_cons_zero, List.set_cons_succ]))); (refine' head_skip (V := fun _ _ => True) ?sw175 ?se175 ?sh175; (case' sw175 => rfl); (case' se175 => (first | exact fun _ _ _ => trivial | (intro t ht w; cases ht; simp [upE]))); (case' sh175 => (try simp only [Act.put, List.setIfInBounds_toArray, List.set_cons_zero, List.set_cons_succ]))); (refine' head_skip (V := fun _ _ => True) ?sw176 ?se176 ?sh176; (case' sw176 => rfl); (case' se176 => (first | exact fun _ _ _ => trivial | (intro t ht w; cases ht; simp [upE]))); (case' sh176 => (try simp only [Act.put, List.setIfInBounds_toArray, List.set_cons_zero, List.set_cons_succ]))); (refine' head_skip (V := fun _ _ => True) ?sw177 ?se177 ?sh177; (case' sw177 => rfl); (case' se177 => (first | exact fun _ _ _ => trivial | (intro t ht w; cases ht; simp [upE]))); (case' sh177 => (try simp only [Act.put, List.setIfInBounds_toArray, List.set_cons_zero, List.set_cons_succ]))); (refine' head_skip (V := fun _ _ => True) ?sw178 ?se178 ?sh178; (case' sw178 => rfl); (case' se178 => (first | exact fun _ _ _ => trivial | (intro t ht w; cases ht; simp [upE]))); (case' sh178 => (try simp only [Act.put, List.setIfInBounds_toArray, List.set_cons_zero, List.set_cons_succ]))); (refine' head_skip (V := fun _ _ => True) ?sw179 ?se179 ?sh179; (case' sw179 => rfl); (case' se179 => (first | exact fun _ _ _ => trivial | (intro t ht w; cases ht; simp [upE]))); (case' sh179 => (try simp only [Act.put, List.setIfInBounds_toArray, List.set_cons_zero, List.set_cons_succ]))); (refine' head_skip (V := fun _ _ => True) ?sw180 ?se180 ?sh180; (case' sw180 => rfl); (case' se180 => (first | exact fun _ _ _ => trivial | (intro t ht w; cases ht; simp [upE]))); (case' sh180 => (try simp only [Act.put, List.setIfInBounds_toArray, List.set_cons_zero, List.set_cons_succ]))); (refine' head_skip (V := fun _ _ => True) ?sw181 ?se181 ?sh181; (case' sw181 => rfl); (case' se181 => (first | exact fun _ _ _ => trivial | (intro t ht w; cases ht; simp [upE]))); (case' sh181 => (try simp only [Act.put, List.setIfInBounds_toArray, List.set_cons_zero, List.set_cons_succ])))
                  (refine' head_val ?dw182 ?de182 ?dr182 ?dh182; (case' dw182 => rfl); (case' de182 => (first | exact fun _ _ _ => trivial | (intro t ht w; cases ht; simp [upE]))); (case' dr182 => (intro w' hw' _; go_simp; with_reducible rfl)); (case' dh182 => (try simp only [Act.put, List.setIfInBounds_toArray, List.set_cons_zero, List.set_cons_succ])))
                  refine head_nil ?_
                  intro w7 hb _
                  replace HB := hid (Grow.trans HB.out hb)
                  replace HX := hid (HX.out.grow hb)
                  replace HY := hid (HY.out.grow hb)
                  replace X := hid (grow_block X.out hb)
                  replace RS := hid (RS.out.grow hb)
                  replace H9 := hid (grow_block H9.out hb)
                  replace HG1 := hid (Grow.trans HG1.out hb)
                  replace HGo := hid (Grow.trans HGo.out hb)
                  replace HG2 := hid (Grow.trans HG2.out hb)
                  clear hb
                  refine wpList_nil ?_
                  go_wp2_with fail
                  go_roundg (p + 1 - (k + 1))
                  case rel => exact ⟨k + 1, by omega, rfl, by go_num, HG2⟩
                  case measure => omega
                · obtain rfl : k = p := by omega
                  have hdv : (k : Int) / 2 = ((vv h (i + 1) : Nat) : Int) := by rw [HVS.out]; omega
                  go_wp2_with fail
                  go_roundg (h + 2 - (i + 1))
                  case rel => exact ⟨i + 1, by omega, by omega, rfl, by go_num, HG1⟩
                  case measure => omega
            · have hx1 := hi0
              have tI : decide (0 < i) = true := by simp; omega
              have tp : ((p : Int) == 1) = false := by
                have e1 := HPV.out
                rw [show h - i = (h - i - 1) + 1 by omega, Nat.pow_succ] at e1
                have e2 := Nat.pow_pos (n := h - i - 1) (show 0 < 2 by omega)
                simp; omega
              obtain ⟨i', hi'⟩ : ∃ i' : Nat, i = i' + 1 := ⟨i - 1, by omega⟩
              have him : (i : Int) - 1 = (i' : Int) := by omega
              obtain ⟨adx, e1, Ap, cp, hpcell, hprow⟩ := RS.out.at_ i' (by rw [HFL.out]; omega)
              injection e1 with e1'
              subst e1'
              rw [HFG.out i' (by omega)] at hpcell hprow
              obtain ⟨lp, hlp⟩ : ∃ lp, lp = upN i' xs := ⟨_, rfl⟩
              rw [← hlp] at hpcell hprow
              have HP32 := hid (show ∀ s ∈ lp, s.length = 32 from by rw [hlp]; exact HU32.out i')
              obtain ⟨pp, hpp⟩ : ∃ pp, pp = lp.length := ⟨_, rfl⟩
              have HPL := hid hpp
              have HPP := hid (show pp = 2 * p by rw [hpp, hlp, HUL.out i' (by omega), HPV.out, show h - i' = (h - i) + 1 by omega, Nat.pow_succ, Nat.mul_comm])
              have HUP := hid (show li = upRow lp by rw [HLX.out, hi', HUS.out, hlp])
              rw [← hpp] at hpcell
              obtain ⟨adp, hap, hpc⟩ := hprow.2 (by intro e; rw [e] at hpp; simp at hpp; have := HPP.out; omega)
              subst hap
              have HPC := hid hpc
              have HCELL := hid hpcell
              have pp1 : (pp : Int) ≤ 64 := by have := HPP.out; omega
              have i1p : (0 : Int) ≤ (i' : Int) := by omega
              have i2p : (i' : Int) < (h : Int) + 1 := by omega
              clear hlp hpp hpcell hprow hpc hi'
              clear hci hih hi0 hx1
              go_wp2_with fail
              (refine' wp_region_head 22 0 [_, _, _, _, _, _, _, _, _, _, _, _, _, _, _, _, _, _, _, _, _, _] rfl (by kernel_rfl) (by kernel_rfl) ?hreg183; case' hreg183 => simp only [List.take_succ_cons, List.take_zero, List.zip_cons_cons, List.zip_nil_right, List.drop_succ_cons, List.drop_zero, List.drop_nil])
              (refine' head_val ?dw184 ?de184 ?dr184 ?dh184; (case' dw184 => rfl); (case' de184 => (first | exact fun _ _ _ => trivial | (intro t ht w; cases ht; simp [upE]))); (case' dr184 => (intro w' hw' _; go_simp; with_reducible rfl)); (case' dh184 => (try simp only [Act.put, List.setIfInBounds_toArray, List.set_cons_zero, List.set_cons_succ]))); (refine' head_val ?dw185 ?de185 ?dr185 ?dh185; (case' dw185 => rfl); (case' de185 => (first | exact fun _ _ _ => trivial | (intro t ht w; cases ht; simp [upE]))); (case' dr185 => (intro w' hw' _; go_simp; with_reducible rfl)); (case' dh185 => (try simp only [Act.put, List.setIfInBounds_toArray, List.set_cons_zero, List.set_cons_succ]))); (refine' head_val ?dw186 ?de186 ?dr186 ?dh186; (case' dw186 => rfl); (case' de186 => (first | exact fun _ _ _ => trivial | (intro t ht w; cases ht; simp [upE]))); (case' dr186 => (intro w' hw' _; go_simp; with_reducible rfl)); (case' dh186 => (try simp only [Act.put, List.setIfInBounds_toArray, List.set_cons_zero, List.set_cons_succ]))); (refine' head_val ?dw187 ?de187 ?dr187 ?dh187; (case' dw187 => rfl); (case' de187 => (first | exact fun _ _ _ => trivial | (intro t ht w; cases ht; simp [upE]))); (case' dr187 => (intro w' hw' _; go_simp; with_reducible rfl)); (case' dh187 => (try simp only [Act.put, List.setIfInBounds_toArray, List.set_cons_zero, List.set_cons_succ]))); (refine' head_val ?dw188 ?de188 ?dr188 ?dh188; (case' dw188 => rfl); (case' de188 => (first | exact fun _ _ _ => trivial | (intro t ht w; cases ht; simp [upE]))); (case' dr188 => (intro w' hw' _; go_simp; with_reducible rfl)); (case' dh188 => (try simp only [Act.put, List.setIfInBounds_toArray, List.set_cons_zero, List.set_cons_succ]))); (refine' head_val ?dw189 ?de189 ?dr189 ?dh189; (case' dw189 => rfl); (case' de189 => (first | exact fun _ _ _ => trivial | (intro t ht w; cases ht; simp [upE]))); (case' dr189 => (intro w' hw' _; go_simp; with_reducible rfl)); (case' dh189 => (try simp only [Act.put, List.setIfInBounds_toArray, List.set_cons_zero, List.set_cons_succ]))); (refine' head_val ?dw190 ?de190 ?dr190 ?dh190; (case' dw190 => rfl); (case' de190 => (first | exact fun _ _ _ => trivial | (intro t ht w; cases ht; simp [upE]))); (case' dr190 => (intro w' hw' _; go_simp; with_reducible rfl)); (case' dh190 => (try simp only [Act.put, List.setIfInBounds_toArray, List.set_cons_zero, List.set_cons_succ]))); (refine' head_val ?dw191 ?de191 ?dr191 ?dh191; (case' dw191 => rfl); (case' de191 => (first | exact fun _ _ _ => trivial | (intro t ht w; cases ht; simp [upE]))); (case' dr191 => (intro w' hw' _; go_simp; with_reducible rfl)); (case' dh191 => (try simp only [Act.put, List.setIfInBounds_toArray, List.set_cons_zero, List.set_cons_succ])))
              (refine' head_skip (V := fun _ _ => True) ?sw192 ?se192 ?sh192; (case' sw192 => rfl); (case' se192 => (first | exact fun _ _ _ => trivial | (intro t ht w; cases ht; simp [upE]))); (case' sh192 => (try simp only [Act.put, List.setIfInBounds_toArray, List.set_cons_zero, List.set_cons_succ]))); (refine' head_skip (V := fun _ _ => True) ?sw193 ?se193 ?sh193; (case' sw193 => rfl); (case' se193 => (first | exact fun _ _ _ => trivial | (intro t ht w; cases ht; simp [upE]))); (case' sh193 => (try simp only [Act.put, List.setIfInBounds_toArray, List.set_cons_zero, List.set_cons_succ]))); (refine' head_skip (V := fun _ _ => True) ?sw194 ?se194 ?sh194; (case' sw194 => rfl); (case' se194 => (first | exact fun _ _ _ => trivial | (intro t ht w; cases ht; simp [upE]))); (case' sh194 => (try simp only [Act.put, List.setIfInBounds_toArray, List.set_cons_zero, List.set_cons_succ]))); (refine' head_skip (V := fun _ _ => True) ?sw195 ?se195 ?sh195; (case' sw195 => rfl); (case' se195 => (first | exact fun _ _ _ => trivial | (intro t ht w; cases ht; simp [upE]))); (case' sh195 => (try simp only [Act.put, List.setIfInBounds_toArray, List.set_cons_zero, List.set_cons_succ]))); (refine' head_skip (V := fun _ _ => True) ?sw196 ?se196 ?sh196; (case' sw196 => rfl); (case' se196 => (first | exact fun _ _ _ => trivial | (intro t ht w; cases ht; simp [upE]))); (case' sh196 => (try simp only [Act.put, List.setIfInBounds_toArray, List.set_cons_zero, List.set_cons_succ]))); (refine' head_skip (V := fun _ _ => True) ?sw197 ?se197 ?sh197; (case' sw197 => rfl); (case' se197 => (first | exact fun _ _ _ => trivial | (intro t ht w; cases ht; simp [upE]))); (case' sh197 => (try simp only [Act.put, List.setIfInBounds_toArray, List.set_cons_zero, List.set_cons_succ]))); (refine' head_skip (V := fun _ _ => True) ?sw198 ?se198 ?sh198; (case' sw198 => rfl); (case' se198 => (first | exact fun _ _ _ => trivial | (intro t ht w; cases ht; simp [upE]))); (case' sh198 => (try simp only [Act.put, List.setIfInBounds_toArray, List.set_cons_zero, List.set_cons_succ]))); (refine' head_skip (V := fun _ _ => True) ?sw199 ?se199 ?sh199; (case' sw199 => rfl); (case' se199 => (first | exact fun _ _ _ => trivial | (intro t ht w; cases ht; simp [upE]))); (case' sh199 => (try simp only [Act.put, List.setIfInBounds_toArray, List.set_cons_zero, List.set_cons_succ]))); (refine' head_skip (V := fun _ _ => True) ?sw200 ?se200 ?sh200; (case' sw200 => rfl); (case' se200 => (first | exact fun _ _ _ => trivial | (intro t ht w; cases ht; simp [upE]))); (case' sh200 => (try simp only [Act.put, List.setIfInBounds_toArray, List.set_cons_zero, List.set_cons_succ]))); (refine' head_skip (V := fun _ _ => True) ?sw201 ?se201 ?sh201; (case' sw201 => rfl); (case' se201 => (first | exact fun _ _ _ => trivial | (intro t ht w; cases ht; simp [upE]))); (case' sh201 => (try simp only [Act.put, List.setIfInBounds_toArray, List.set_cons_zero, List.set_cons_succ]))); (refine' head_skip (V := fun _ _ => True) ?sw202 ?se202 ?sh202; (case' sw202 => rfl); (case' se202 => (first | exact fun _ _ _ => trivial | (intro t ht w; cases ht; simp [upE]))); (case' sh202 => (try simp only [Act.put, List.setIfInBounds_toArray, List.set_cons_zero, List.set_cons_succ]))); (refine' head_skip (V := fun _ _ => True) ?sw203 ?se203 ?sh203; (case' sw203 => rfl); (case' se203 => (first | exact fun _ _ _ => trivial | (intro t ht w; cases ht; simp [upE]))); (case' sh203 => (try simp only [Act.put, List.setIfInBounds_toArray, List.set_cons_zero, List.set_cons_succ])))
              (refine' head_val ?dw204 ?de204 ?dr204 ?dh204; (case' dw204 => rfl); (case' de204 => (first | exact fun _ _ _ => trivial | (intro t ht w; cases ht; simp [upE]))); (case' dr204 => (intro w' hw' _; go_simp; with_reducible rfl)); (case' dh204 => (try simp only [Act.put, List.setIfInBounds_toArray, List.set_cons_zero, List.set_cons_succ]))); (refine' head_val ?dw205 ?de205 ?dr205 ?dh205; (case' dw205 => rfl); (case' de205 => (first | exact fun _ _ _ => trivial | (intro t ht w; cases ht; simp [upE]))); (case' dr205 => (intro w' hw' _; go_simp; with_reducible rfl)); (case' dh205 => (try simp only [Act.put, List.setIfInBounds_toArray, List.set_cons_zero, List.set_cons_succ])))
              refine head_nil ?_
              intro wq hb _
              replace HB := hid (Grow.trans HB.out hb)
              replace HX := hid (HX.out.grow hb)
              replace HY := hid (HY.out.grow hb)
              replace X := hid (grow_block X.out hb)
              replace RS := hid (RS.out.grow hb)
              replace H9 := hid (grow_block H9.out hb)
              replace HG1 := hid (Grow.trans HG1.out hb)
              replace HGo := hid (Grow.trans HGo.out hb)
              clear hb
              refine wpList_nil ?_
              clear hq3 hq4 tp
              go_wp2_with fail
              go_loopg [112] (p + 1) (fun z2 x wr => ∃ k : Nat, k ≤ p ∧ z2 = p + 1 - k ∧ x = .int .i64 (k : Int) ∧ Hid (Grow wq wr))
              case atStart => exact ⟨0, by omega, by omega, rfl, hid (grow_refl _)⟩
              case round =>
                obtain ⟨k, hk, hz2, rfl, HG2⟩ := hrel
                replace HB := hid (Grow.trans HB.out HG2.out)
                replace HX := hid (HX.out.grow HG2.out)
                replace HY := hid (HY.out.grow HG2.out)
                replace X := hid (grow_block X.out HG2.out)
                replace RS := hid (RS.out.grow HG2.out)
                replace H9 := hid (grow_block H9.out HG2.out)
                replace HG1 := hid (Grow.trans HG1.out HG2.out)
                replace HGo := hid (Grow.trans HGo.out HG2.out)
                by_cases hkp : k < p
                · have k0 : (0 : Int) ≤ (k : Int) := by omega
                  have k1 : (k : Int) < (p : Int) := by omega
                  obtain ⟨a, ha⟩ : ∃ a : Nat, a = 2 * k := ⟨_, rfl⟩
                  obtain ⟨b, hbb⟩ : ∃ b : Nat, b = a + 1 := ⟨_, rfl⟩
                  have ha2 : 2 * (k : Int) = (a : Int) := by omega
                  have hb2 : (a : Int) + 1 = (b : Int) := by omega
                  have hp2 := HPP.out
                  have hpl := HPL.out
                  have a1 : (a : Int) < (pp : Int) := by omega
                  have b1 : (b : Int) < (pp : Int) := by omega
                  have wa : IntKind.i64.wrap (a : Int) = (a : Int) := IntWalk.i64_in _ (by omega)
                  have wb : IntKind.i64.wrap (b : Int) = (b : Int) := IntWalk.i64_in _ (by omega)
                  have wi : IntKind.i64.wrap (i' : Int) = (i' : Int) := IntWalk.i64_in _ (by omega)
                  have A32 := hid (getD_mem_len HP32.out (show a < lp.length by omega))
                  have B32 := hid (getD_mem_len HP32.out (show b < lp.length by omega))
                  have HCA := hid (HPC.out a (by omega))
                  have HCB := hid (HPC.out b (by omega))
                  have hck := HRC.out k (by rw [HLI.out]; exact hkp)
                  have HND := hid (show li.getD k [] = nd (lp.getD a []) (lp.getD b []) by rw [HUP.out, upRow_get _ _ (by omega), upG, ← ha, hbb])
                  rw [HND.out] at hck
                  have HCK := hid hck
                  have ND := hid (nd_length (lp.getD a []) (lp.getD b []))
                  generalize lp.getD a [] = xa at *
                  generalize lp.getD b [] = xb at *
                  have hq1 := id_neq_self (nd xa xb) ND.out
                  have hq2 := id_guard .neq (nd xa xb) (nd xa xb)
                  clear ha hbb hp2 hpl hck
                  go_wp2_with fail
                  (refine' wp_region_head 29 0 [_, _, _, _, _, _, _, _, _, _, _, _, _, _, _, _, _, _, _, _, _, _, _, _, _, _, _, _, _] rfl (by kernel_rfl) (by kernel_rfl) ?hreg206; case' hreg206 => simp only [List.take_succ_cons, List.take_zero, List.zip_cons_cons, List.zip_nil_right, List.drop_succ_cons, List.drop_zero, List.drop_nil])
                  (refine' head_val ?dw207 ?de207 ?dr207 ?dh207; (case' dw207 => rfl); (case' de207 => (first | exact fun _ _ _ => trivial | (intro t ht w; cases ht; simp [upE]))); (case' dr207 => (intro w' hw' _; go_simp; with_reducible rfl)); (case' dh207 => (try simp only [Act.put, List.setIfInBounds_toArray, List.set_cons_zero, List.set_cons_succ]))); (refine' head_val ?dw208 ?de208 ?dr208 ?dh208; (case' dw208 => rfl); (case' de208 => (first | exact fun _ _ _ => trivial | (intro t ht w; cases ht; simp [upE]))); (case' dr208 => (intro w' hw' _; go_simp; with_reducible rfl)); (case' dh208 => (try simp only [Act.put, List.setIfInBounds_toArray, List.set_cons_zero, List.set_cons_succ]))); (refine' head_val ?dw209 ?de209 ?dr209 ?dh209; (case' dw209 => rfl); (case' de209 => (first | exact fun _ _ _ => trivial | (intro t ht w; cases ht; simp [upE]))); (case' dr209 => (intro w' hw' _; go_simp; with_reducible rfl)); (case' dh209 => (try simp only [Act.put, List.setIfInBounds_toArray, List.set_cons_zero, List.set_cons_succ]))); (refine' head_val ?dw210 ?de210 ?dr210 ?dh210; (case' dw210 => rfl); (case' de210 => (first | exact fun _ _ _ => trivial | (intro t ht w; cases ht; simp [upE]))); (case' dr210 => (intro w' hw' _; go_simp; with_reducible rfl)); (case' dh210 => (try simp only [Act.put, List.setIfInBounds_toArray, List.set_cons_zero, List.set_cons_succ]))); (refine' head_val ?dw211 ?de211 ?dr211 ?dh211; (case' dw211 => rfl); (case' de211 => (first | exact fun _ _ _ => trivial | (intro t ht w; cases ht; simp [upE]))); (case' dr211 => (intro w' hw' _; go_simp; with_reducible rfl)); (case' dh211 => (try simp only [Act.put, List.setIfInBounds_toArray, List.set_cons_zero, List.set_cons_succ]))); (refine' head_val ?dw212 ?de212 ?dr212 ?dh212; (case' dw212 => rfl); (case' de212 => (first | exact fun _ _ _ => trivial | (intro t ht w; cases ht; simp [upE]))); (case' dr212 => (intro w' hw' _; go_simp; with_reducible rfl)); (case' dh212 => (try simp only [Act.put, List.setIfInBounds_toArray, List.set_cons_zero, List.set_cons_succ])))
                  (refine' head_loadAt (x := _) rfl ?_ rfl rfl (fun j v hv => grow_cell (HCK.out j v hv) HGo.out) (ND.out) ?_; (first | exact fun _ _ _ => trivial | (intro t ht w; cases ht; simp [upE])); try simp only [Act.put, List.setIfInBounds_toArray, List.set_cons_zero, List.set_cons_succ])
                  (refine' head_val ?dw213 ?de213 ?dr213 ?dh213; (case' dw213 => rfl); (case' de213 => (first | exact fun _ _ _ => trivial | (intro t ht w; cases ht; simp [upE]))); (case' dr213 => (intro w' hw' _; go_simp; with_reducible rfl)); (case' dh213 => (try simp only [Act.put, List.setIfInBounds_toArray, List.set_cons_zero, List.set_cons_succ]))); (refine' head_val ?dw214 ?de214 ?dr214 ?dh214; (case' dw214 => rfl); (case' de214 => (first | exact fun _ _ _ => trivial | (intro t ht w; cases ht; simp [upE]))); (case' dr214 => (intro w' hw' _; go_simp; with_reducible rfl)); (case' dh214 => (try simp only [Act.put, List.setIfInBounds_toArray, List.set_cons_zero, List.set_cons_succ]))); (refine' head_val ?dw215 ?de215 ?dr215 ?dh215; (case' dw215 => rfl); (case' de215 => (first | exact fun _ _ _ => trivial | (intro t ht w; cases ht; simp [upE]))); (case' dr215 => (intro w' hw' _; go_simp; with_reducible rfl)); (case' dh215 => (try simp only [Act.put, List.setIfInBounds_toArray, List.set_cons_zero, List.set_cons_succ]))); (refine' head_val ?dw216 ?de216 ?dr216 ?dh216; (case' dw216 => rfl); (case' de216 => (first | exact fun _ _ _ => trivial | (intro t ht w; cases ht; simp [upE]))); (case' dr216 => (intro w' hw' _; go_simp; with_reducible rfl)); (case' dh216 => (try simp only [Act.put, List.setIfInBounds_toArray, List.set_cons_zero, List.set_cons_succ])))
                  (refine' head_loadCell rfl ?_ rfl rfl (grow_cell HCELL.out HGo.out) Try.underlying24 rfl ?_; (first | exact fun _ _ _ => trivial | (intro t ht w; cases ht; simp [upE])); try simp only [Act.put, List.setIfInBounds_toArray, List.set_cons_zero, List.set_cons_succ])
                  (refine' head_val ?dw217 ?de217 ?dr217 ?dh217; (case' dw217 => rfl); (case' de217 => (first | exact fun _ _ _ => trivial | (intro t ht w; cases ht; simp [upE]))); (case' dr217 => (intro w' hw' _; go_simp; with_reducible rfl)); (case' dh217 => (try simp only [Act.put, List.setIfInBounds_toArray, List.set_cons_zero, List.set_cons_succ]))); (refine' head_val ?dw218 ?de218 ?dr218 ?dh218; (case' dw218 => rfl); (case' de218 => (first | exact fun _ _ _ => trivial | (intro t ht w; cases ht; simp [upE]))); (case' dr218 => (intro w' hw' _; go_simp; with_reducible rfl)); (case' dh218 => (try simp only [Act.put, List.setIfInBounds_toArray, List.set_cons_zero, List.set_cons_succ]))); (refine' head_val ?dw219 ?de219 ?dr219 ?dh219; (case' dw219 => rfl); (case' de219 => (first | exact fun _ _ _ => trivial | (intro t ht w; cases ht; simp [upE]))); (case' dr219 => (intro w' hw' _; go_simp; with_reducible rfl)); (case' dh219 => (try simp only [Act.put, List.setIfInBounds_toArray, List.set_cons_zero, List.set_cons_succ])))
                  (refine' head_loadAt (x := _) rfl ?_ rfl rfl (fun j v hv => grow_cell (HCA.out j v hv) HGo.out) (A32.out) ?_; (first | exact fun _ _ _ => trivial | (intro t ht w; cases ht; simp [upE])); try simp only [Act.put, List.setIfInBounds_toArray, List.set_cons_zero, List.set_cons_succ])
                  (refine' head_val ?dw220 ?de220 ?dr220 ?dh220; (case' dw220 => rfl); (case' de220 => (first | exact fun _ _ _ => trivial | (intro t ht w; cases ht; simp [upE]))); (case' dr220 => (intro w' hw' _; go_simp; with_reducible rfl)); (case' dh220 => (try simp only [Act.put, List.setIfInBounds_toArray, List.set_cons_zero, List.set_cons_succ]))); (refine' head_val ?dw221 ?de221 ?dr221 ?dh221; (case' dw221 => rfl); (case' de221 => (first | exact fun _ _ _ => trivial | (intro t ht w; cases ht; simp [upE]))); (case' dr221 => (intro w' hw' _; go_simp; with_reducible rfl)); (case' dh221 => (try simp only [Act.put, List.setIfInBounds_toArray, List.set_cons_zero, List.set_cons_succ]))); (refine' head_val ?dw222 ?de222 ?dr222 ?dh222; (case' dw222 => rfl); (case' de222 => (first | exact fun _ _ _ => trivial | (intro t ht w; cases ht; simp [upE]))); (case' dr222 => (intro w' hw' _; go_simp; with_reducible rfl)); (case' dh222 => (try simp only [Act.put, List.setIfInBounds_toArray, List.set_cons_zero, List.set_cons_succ]))); (refine' head_val ?dw223 ?de223 ?dr223 ?dh223; (case' dw223 => rfl); (case' de223 => (first | exact fun _ _ _ => trivial | (intro t ht w; cases ht; simp [upE]))); (case' dr223 => (intro w' hw' _; go_simp; with_reducible rfl)); (case' dh223 => (try simp only [Act.put, List.setIfInBounds_toArray, List.set_cons_zero, List.set_cons_succ])))
                  (refine' head_loadCell rfl ?_ rfl rfl (grow_cell HCELL.out HGo.out) Try.underlying24 rfl ?_; (first | exact fun _ _ _ => trivial | (intro t ht w; cases ht; simp [upE])); try simp only [Act.put, List.setIfInBounds_toArray, List.set_cons_zero, List.set_cons_succ])
                  (refine' head_val ?dw224 ?de224 ?dr224 ?dh224; (case' dw224 => rfl); (case' de224 => (first | exact fun _ _ _ => trivial | (intro t ht w; cases ht; simp [upE]))); (case' dr224 => (intro w' hw' _; go_simp; with_reducible rfl)); (case' dh224 => (try simp only [Act.put, List.setIfInBounds_toArray, List.set_cons_zero, List.set_cons_succ]))); (refine' head_val ?dw225 ?de225 ?dr225 ?dh225; (case' dw225 => rfl); (case' de225 => (first | exact fun _ _ _ => trivial | (intro t ht w; cases ht; simp [upE]))); (case' dr225 => (intro w' hw' _; go_simp; with_reducible rfl)); (case' dh225 => (try simp only [Act.put, List.setIfInBounds_toArray, List.set_cons_zero, List.set_cons_succ]))); (refine' head_val ?dw226 ?de226 ?dr226 ?dh226; (case' dw226 => rfl); (case' de226 => (first | exact fun _ _ _ => trivial | (intro t ht w; cases ht; simp [upE]))); (case' dr226 => (intro w' hw' _; go_simp; with_reducible rfl)); (case' dh226 => (try simp only [Act.put, List.setIfInBounds_toArray, List.set_cons_zero, List.set_cons_succ]))); (refine' head_val ?dw227 ?de227 ?dr227 ?dh227; (case' dw227 => rfl); (case' de227 => (first | exact fun _ _ _ => trivial | (intro t ht w; cases ht; simp [upE]))); (case' dr227 => (intro w' hw' _; go_simp; with_reducible rfl)); (case' dh227 => (try simp only [Act.put, List.setIfInBounds_toArray, List.set_cons_zero, List.set_cons_succ])))
                  (refine' head_loadAt (x := _) rfl ?_ rfl rfl (fun j v hv => grow_cell (HCB.out j v hv) HGo.out) (B32.out) ?_; (first | exact fun _ _ _ => trivial | (intro t ht w; cases ht; simp [upE])); try simp only [Act.put, List.setIfInBounds_toArray, List.set_cons_zero, List.set_cons_succ])
                  (refine' head_call ?cw228 ?ce228 ?cr228 ?cc228 ?ch228; (case' cw228 => rfl); (case' ce228 => (first | exact fun _ _ _ => trivial | (intro t ht w; cases ht; simp [upE]))); (case' cr228 => (intro w'; go_simp; first | exact ⟨rfl, rfl⟩ | with_reducible rfl)); (case' cc228 => (intro w' hw' _; exact refPairN xa xb A32.out B32.out w')); (case' ch228 => (try simp only [Act.put, List.setIfInBounds_toArray, List.set_cons_zero, List.set_cons_succ])))
                  (refine' head_val ?dw229 ?de229 ?dr229 ?dh229; (case' dw229 => rfl); (case' de229 => (first | exact fun _ _ _ => trivial | (intro t ht w; cases ht; simp [upE]))); (case' dr229 => (intro w' hw' _; go_simp; with_reducible rfl)); (case' dh229 => (try simp only [Act.put, List.setIfInBounds_toArray, List.set_cons_zero, List.set_cons_succ]))); (refine' head_val ?dw230 ?de230 ?dr230 ?dh230; (case' dw230 => rfl); (case' de230 => (first | exact fun _ _ _ => trivial | (intro t ht w; cases ht; simp [upE]))); (case' dr230 => (intro w' hw' _; go_simp; with_reducible rfl)); (case' dh230 => (try simp only [Act.put, List.setIfInBounds_toArray, List.set_cons_zero, List.set_cons_succ])))
                  refine head_nil ?_
                  intro w8 hb _
                  replace HB := hid (Grow.trans HB.out hb)
                  replace HX := hid (HX.out.grow hb)
                  replace HY := hid (HY.out.grow hb)
                  replace X := hid (grow_block X.out hb)
                  replace RS := hid (RS.out.grow hb)
                  replace H9 := hid (grow_block H9.out hb)
                  replace HG1 := hid (Grow.trans HG1.out hb)
                  replace HGo := hid (Grow.trans HGo.out hb)
                  replace HG2 := hid (Grow.trans HG2.out hb)
                  clear hb
                  refine wpList_nil ?_
                  clear hq1 hq2
                  go_wp2_with fail
                  go_roundg (p + 1 - (k + 1))
                  case rel => exact ⟨k + 1, by omega, rfl, by go_num, HG2⟩
                  case measure => omega
                · obtain rfl : k = p := by omega
                  have hdv : (k : Int) / 2 = ((vv h (i + 1) : Nat) : Int) := by rw [HVS.out]; omega
                  go_wp2_with fail
                  go_roundg (h + 2 - (i + 1))
                  case rel => exact ⟨i + 1, by omega, by omega, rfl, by go_num, HG1⟩
                  case measure => omega
        · obtain rfl : i = h + 1 := by omega
          have hv : vv h (h + 1) = 0 := by rw [vv, if_neg (by omega)]
          rw [hv]
          go_wp2_with fail
          refine (awake07 _).mono ?_
          rintro e w9 ⟨rfl, hb⟩
          replace HB := hid (Grow.trans HB.out hb)
          replace HX := hid (HX.out.grow hb)
          replace HY := hid (HY.out.grow hb)
          replace X := hid (grow_block X.out hb)
          replace RS := hid (RS.out.grow hb)
          replace H9 := hid (grow_block H9.out hb)
          replace HG1 := hid (Grow.trans HG1.out hb)
          clear hb
          go_wp2
          go_ret
          exact ⟨rfl, HB.out⟩
theorem keytreeFolds (A B : Option Addr) (n c m d : Nat) (xs way : List IdK) (leaf : Int) (hlm : leaf ≤ 9223372036854775807) (sum : IdK) (hs : sum.length = 32) (w : World) (hx : IdRow w A xs) (hy : IdRow w B way) (hn : xs.length = n) (hm : way.length = m) (h32 : ∀ s ∈ xs, s.length = 32) (k32 : ∀ s ∈ way, s.length = 32) (hnc : n ≤ c) :
    Calls Try.prog 4 #[.slice A n c, .int .i64 leaf, idV sum, .slice B m d] w fun e w' => e = .returned (.bool true) ∧ Below w.heap.size w w' := by
  by_cases hlg : 40 < n ∨ 20 < m
  · exact keytreeFolds_long A B n c m d xs way leaf hlm sum hs w hx hy hn hm h32 k32 hnc hlg
  · cases hb : badF n with
    | true => exact keytreeFolds_bad A B n c m d xs way leaf hlm sum hs w hx hy hn hm h32 k32 hnc (by omega) (by omega) hb
    | false =>
      obtain ⟨h, hh⟩ := good_pow ⟨n, by omega⟩ hb
      exact keytreeFolds_good A B n c m d xs way leaf hlm sum hs w hx hy hn hm h32 k32 hnc (by omega) (by omega) h.val hh (by omega)
end Go.Proofs.Ytffgifegaagndaa
