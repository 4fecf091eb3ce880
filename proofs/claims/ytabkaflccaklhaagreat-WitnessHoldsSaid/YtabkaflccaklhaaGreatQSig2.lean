/- signer.Fits, its reference: contracts. -/
import Derived.Test.YtabkaflccaklhaaGreatQKeyG
set_option linter.unusedSimpArgs false
set_option linter.unusedVariables false
namespace Go.Proofs.YtabkaflccaklhaaGreat
open Go.RowKit
open Go.Qk hiding rotr b4
set_option maxHeartbeats 1000000
set_option maxRecDepth 100000
def fitsB (b h leaf : Int) (n m k : Nat) : Bool := ktB b h && (decide (0 ≤ leaf) && (decide (leaf < ((2 ^ h.toNat : Nat) : Int)) && (decide ((n : Int) = b) && (decide ((m : Int) = b) && decide ((k : Int) = h)))))
theorem sgFits (b h leaf : Int) (A B C : Option Addr) (n m k c d e : Nat) (w : World) :
    Calls Tryz.prog 140 #[.agg #[.int .i64 b, .int .i64 h], .agg #[.int .i64 leaf, .slice A n c, .slice B m d, .slice C k e]] w fun e w' => e = .returned (.bool (fitsB b h leaf n m k)) ∧ Below w.heap.size w w' := by
  cases hk : ktB b h with
  | false =>
    have HV := hid (show fitsB b h leaf n m k = false by simp [fitsB, hk])
    have HKR := hid (fun w => ktRight b h w)
    rw [hk] at HKR
    clear hk
    rw [HV.out]
    go_enter Tryz.func140, Tryz.ntmps140
    have HB := hid (grow_refl w)
    apply wp_seq_k; intro _ _; apply wp_region_lit
    refine op_boxC (cs := #[.int .i64 b, .int .i64 h]) rfl rfl rfl rfl ?_
    intro gp w1 hgl hgu hb hr
    have PL := hid (Nat.le_trans HB.out.size hgl)
    replace HB := hid (Grow.trans HB.out hb)
    have P := hid hr; have PU := hid hgu
    clear hr hgl hgu hb
    try simp only [Act.put, List.setIfInBounds_toArray, List.set_cons_zero, List.set_cons_succ]
    refine op_boxC (cs := #[.int .i64 leaf, .slice A n c, .slice B m d, .slice C k e]) rfl rfl rfl rfl ?_
    intro gx w2 hgl hgu hb hr
    have XL := hid (Nat.le_trans HB.out.size hgl)
    replace HB := hid (Grow.trans HB.out hb)
    replace P := hid (grow_block P.out hb)
    have X := hid hr; have XU := hid hgu
    clear hr hgl hgu hb
    try simp only [Act.put, List.setIfInBounds_toArray, List.set_cons_zero, List.set_cons_succ]
    go_wp2_with fail
    (refine' wp_region_head 39 0 [_, _, _, _, _, _, _, _, _, _, _, _, _, _, _, _, _, _, _, _, _, _, _, _, _, _, _, _, _, _, _, _, _, _, _, _, _, _, _] rfl (by kernel_rfl) (by kernel_rfl) ?hreg1; case' hreg1 => simp only [List.take_succ_cons, List.take_zero, List.zip_cons_cons, List.zip_nil_right, List.drop_succ_cons, List.drop_zero, List.drop_nil])
    (refine' head_loadB rfl ?_ rfl rfl P.out Tryz.underlying54 rfl rfl ?_; (first | exact fun _ _ _ => trivial | (intro t ht w; cases ht; simp [upE])); try simp only [Act.put, List.setIfInBounds_toArray, List.set_cons_zero, List.set_cons_succ])
    (refine' head_call ?cw2 ?ce2 ?cr2 ?cc2 ?ch2; (case' cw2 => rfl); (case' ce2 => (first | exact fun _ _ _ => trivial | (intro t ht w; cases ht; simp [upE]))); (case' cr2 => (intro w'; go_simp; first | exact ⟨rfl, rfl⟩ | with_reducible rfl)); (case' cc2 => (intro w' hw' _; exact HKR.out w')); (case' ch2 => (try simp only [Act.put, List.setIfInBounds_toArray, List.set_cons_zero, List.set_cons_succ])))
    (iterate 1 (refine' head_val ?_ ?_ ?_ ?_; rotate_left; (· rfl); (· first | exact fun _ _ _ => trivial | (intro t ht w; cases ht; simp [upE])); (· intro w' hw' _; go_simp; with_reducible rfl); simp only [Act.put, List.setIfInBounds_toArray, List.set_cons_zero, List.set_cons_succ]))
    (iterate 3 (refine' head_skip (V := fun _ _ => True) ?_ ?_ ?_; (· rfl); (· exact fun _ _ _ => trivial); simp only [Act.put, List.setIfInBounds_toArray, List.set_cons_zero, List.set_cons_succ]))
    (iterate 2 (refine' head_val ?_ ?_ ?_ ?_; rotate_left; (· rfl); (· first | exact fun _ _ _ => trivial | (intro t ht w; cases ht; simp [upE])); (· intro w' hw' _; go_simp; with_reducible rfl); simp only [Act.put, List.setIfInBounds_toArray, List.set_cons_zero, List.set_cons_succ]))
    (iterate 5 (refine' head_skip (V := fun _ _ => True) ?_ ?_ ?_; (· rfl); (· exact fun _ _ _ => trivial); simp only [Act.put, List.setIfInBounds_toArray, List.set_cons_zero, List.set_cons_succ]))
    (iterate 2 (refine' head_val ?_ ?_ ?_ ?_; rotate_left; (· rfl); (· first | exact fun _ _ _ => trivial | (intro t ht w; cases ht; simp [upE])); (· intro w' hw' _; go_simp; with_reducible rfl); simp only [Act.put, List.setIfInBounds_toArray, List.set_cons_zero, List.set_cons_succ]))
    (iterate 6 (refine' head_skip (V := fun _ _ => True) ?_ ?_ ?_; (· rfl); (· exact fun _ _ _ => trivial); simp only [Act.put, List.setIfInBounds_toArray, List.set_cons_zero, List.set_cons_succ]))
    (iterate 2 (refine' head_val ?_ ?_ ?_ ?_; rotate_left; (· rfl); (· first | exact fun _ _ _ => trivial | (intro t ht w; cases ht; simp [upE])); (· intro w' hw' _; go_simp; with_reducible rfl); simp only [Act.put, List.setIfInBounds_toArray, List.set_cons_zero, List.set_cons_succ]))
    (iterate 6 (refine' head_skip (V := fun _ _ => True) ?_ ?_ ?_; (· rfl); (· exact fun _ _ _ => trivial); simp only [Act.put, List.setIfInBounds_toArray, List.set_cons_zero, List.set_cons_succ]))
    (iterate 2 (refine' head_val ?_ ?_ ?_ ?_; rotate_left; (· rfl); (· first | exact fun _ _ _ => trivial | (intro t ht w; cases ht; simp [upE])); (· intro w' hw' _; go_simp; with_reducible rfl); simp only [Act.put, List.setIfInBounds_toArray, List.set_cons_zero, List.set_cons_succ]))
    (iterate 6 (refine' head_skip (V := fun _ _ => True) ?_ ?_ ?_; (· rfl); (· exact fun _ _ _ => trivial); simp only [Act.put, List.setIfInBounds_toArray, List.set_cons_zero, List.set_cons_succ]))
    (iterate 2 (refine' head_val ?_ ?_ ?_ ?_; rotate_left; (· rfl); (· first | exact fun _ _ _ => trivial | (intro t ht w; cases ht; simp [upE])); (· intro w' hw' _; go_simp; with_reducible rfl); simp only [Act.put, List.setIfInBounds_toArray, List.set_cons_zero, List.set_cons_succ]))
    refine head_nil ?_
    intro w3 hb _
    replace HB := hid (Grow.trans HB.out hb)
    replace P := hid (grow_block P.out hb)
    replace X := hid (grow_block X.out hb)
    clear hb
    refine wpList_nil ?_
    go_wp2_with fail
    go_ret
    exact ⟨rfl, HB.out⟩
  | true =>
    obtain ⟨q1, q2, q3, q4⟩ := kt_bounds hk
    obtain ⟨b, rfl⟩ : ∃ n : Nat, b = (n : Int) := ⟨b.toNat, by omega⟩
    obtain ⟨h, rfl⟩ : ∃ n : Nat, h = (n : Int) := ⟨h.toNat, by omega⟩
    have HKR := hid (fun w => ktRight b h w)
    rw [hk] at HKR
    have HLV := hid (fun w => ktLeaves b h (2 ^ h) (by rw [hk]; simp) w)
    have hfb : fitsB b h leaf n m k = (decide (0 ≤ leaf) && (decide (leaf < ((2 ^ h : Nat) : Int)) && (decide (n = b) && (decide (m = b) && decide (k = h))))) := by
      unfold fitsB
      rw [hk, Int.toNat_natCast, Bool.true_and, show decide ((n : Int) = (b : Int)) = decide (n = b) by simp; omega, show decide ((m : Int) = (b : Int)) = decide (m = b) by simp; omega, show decide ((k : Int) = (h : Int)) = decide (k = h) by simp; omega]
    generalize 2 ^ h = N at *
    clear hk q1 q2 q3 q4
    by_cases h0 : 0 ≤ leaf
    · by_cases h1 : leaf < (N : Int)
      · have t1 : decide (leaf < (N : Int)) = true := by simpa using h1
        by_cases h2 : n = b
        · have t2 : ((n : Int) == (b : Int)) = true := by simp; omega
          by_cases h3 : m = b
          · have t3 : ((m : Int) == (b : Int)) = true := by simp; omega
            by_cases h4 : k = h
            · have t4 : ((k : Int) == (h : Int)) = true := by simp; omega
              have HV := hid (show fitsB b h leaf n m k = true by rw [hfb]; simp [h0, h1, h2, h3, h4])
              clear h1 h2 h3 h4 hfb
              rw [HV.out]
              go_enter Tryz.func140, Tryz.ntmps140
              have HB := hid (grow_refl w)
              apply wp_seq_k; intro _ _; apply wp_region_lit
              refine op_boxC (cs := #[.int .i64 (b : Int), .int .i64 (h : Int)]) rfl rfl rfl rfl ?_
              intro gp w4 hgl hgu hb hr
              have PL := hid (Nat.le_trans HB.out.size hgl)
              replace HB := hid (Grow.trans HB.out hb)
              have P := hid hr; have PU := hid hgu
              clear hr hgl hgu hb
              try simp only [Act.put, List.setIfInBounds_toArray, List.set_cons_zero, List.set_cons_succ]
              refine op_boxC (cs := #[.int .i64 leaf, .slice A n c, .slice B m d, .slice C k e]) rfl rfl rfl rfl ?_
              intro gx w5 hgl hgu hb hr
              have XL := hid (Nat.le_trans HB.out.size hgl)
              replace HB := hid (Grow.trans HB.out hb)
              replace P := hid (grow_block P.out hb)
              have X := hid hr; have XU := hid hgu
              clear hr hgl hgu hb
              try simp only [Act.put, List.setIfInBounds_toArray, List.set_cons_zero, List.set_cons_succ]
              go_wp2_with fail
              (refine' wp_region_head 39 0 [_, _, _, _, _, _, _, _, _, _, _, _, _, _, _, _, _, _, _, _, _, _, _, _, _, _, _, _, _, _, _, _, _, _, _, _, _, _, _] rfl (by kernel_rfl) (by kernel_rfl) ?hreg3; case' hreg3 => simp only [List.take_succ_cons, List.take_zero, List.zip_cons_cons, List.zip_nil_right, List.drop_succ_cons, List.drop_zero, List.drop_nil])
              (refine' head_loadB rfl ?_ rfl rfl P.out Tryz.underlying54 rfl rfl ?_; (first | exact fun _ _ _ => trivial | (intro t ht w; cases ht; simp [upE])); try simp only [Act.put, List.setIfInBounds_toArray, List.set_cons_zero, List.set_cons_succ])
              (refine' head_call ?cw4 ?ce4 ?cr4 ?cc4 ?ch4; (case' cw4 => rfl); (case' ce4 => (first | exact fun _ _ _ => trivial | (intro t ht w; cases ht; simp [upE]))); (case' cr4 => (intro w'; go_simp; first | exact ⟨rfl, rfl⟩ | with_reducible rfl)); (case' cc4 => (intro w' hw' _; exact HKR.out w')); (case' ch4 => (try simp only [Act.put, List.setIfInBounds_toArray, List.set_cons_zero, List.set_cons_succ])))
              (iterate 1 (refine' head_val ?_ ?_ ?_ ?_; rotate_left; (· rfl); (· first | exact fun _ _ _ => trivial | (intro t ht w; cases ht; simp [upE])); (· intro w' hw' _; go_simp; with_reducible rfl); simp only [Act.put, List.setIfInBounds_toArray, List.set_cons_zero, List.set_cons_succ]))
              (iterate 1 (refine' head_val ?_ ?_ ?_ ?_; rotate_left; (· rfl); (· first | exact fun _ _ _ => trivial | (intro t ht w; cases ht; simp [upE])); (· intro w' hw' _; go_simp; with_reducible rfl); simp only [Act.put, List.setIfInBounds_toArray, List.set_cons_zero, List.set_cons_succ]))
              (refine' head_load1 rfl ?_ rfl rfl X.out rfl Tryz.underlying3 rfl ?_; (first | exact fun _ _ _ => trivial | (intro t ht w; cases ht; simp [upE])); try simp only [Act.put, List.setIfInBounds_toArray, List.set_cons_zero, List.set_cons_succ])
              (iterate 1 (refine' head_val ?_ ?_ ?_ ?_; rotate_left; (· rfl); (· first | exact fun _ _ _ => trivial | (intro t ht w; cases ht; simp [upE])); (· intro w' hw' _; go_simp; with_reducible rfl); simp only [Act.put, List.setIfInBounds_toArray, List.set_cons_zero, List.set_cons_succ]))
              (iterate 2 (refine' head_val ?_ ?_ ?_ ?_; rotate_left; (· rfl); (· first | exact fun _ _ _ => trivial | (intro t ht w; cases ht; simp [upE])); (· intro w' hw' _; go_simp; with_reducible rfl); simp only [Act.put, List.setIfInBounds_toArray, List.set_cons_zero, List.set_cons_succ]))
              (iterate 1 (refine' head_val ?_ ?_ ?_ ?_; rotate_left; (· rfl); (· first | exact fun _ _ _ => trivial | (intro t ht w; cases ht; simp [upE])); (· intro w' hw' _; go_simp; with_reducible rfl); simp only [Act.put, List.setIfInBounds_toArray, List.set_cons_zero, List.set_cons_succ]))
              (refine' head_load1 rfl ?_ rfl rfl X.out rfl Tryz.underlying3 rfl ?_; (first | exact fun _ _ _ => trivial | (intro t ht w; cases ht; simp [upE])); try simp only [Act.put, List.setIfInBounds_toArray, List.set_cons_zero, List.set_cons_succ])
              (refine' head_loadB rfl ?_ rfl rfl P.out Tryz.underlying54 rfl rfl ?_; (first | exact fun _ _ _ => trivial | (intro t ht w; cases ht; simp [upE])); try simp only [Act.put, List.setIfInBounds_toArray, List.set_cons_zero, List.set_cons_succ])
              (refine' head_call ?cw5 ?ce5 ?cr5 ?cc5 ?ch5; (case' cw5 => rfl); (case' ce5 => (first | exact fun _ _ _ => trivial | (intro t ht w; cases ht; simp [upE]))); (case' cr5 => (intro w'; go_simp; first | exact ⟨rfl, rfl⟩ | with_reducible rfl)); (case' cc5 => (intro w' hw' _; exact HLV.out w')); (case' ch5 => (try simp only [Act.put, List.setIfInBounds_toArray, List.set_cons_zero, List.set_cons_succ])))
              (iterate 1 (refine' head_val ?_ ?_ ?_ ?_; rotate_left; (· rfl); (· first | exact fun _ _ _ => trivial | (intro t ht w; cases ht; simp [upE])); (· intro w' hw' _; go_simp; with_reducible rfl); simp only [Act.put, List.setIfInBounds_toArray, List.set_cons_zero, List.set_cons_succ]))
              (iterate 2 (refine' head_val ?_ ?_ ?_ ?_; rotate_left; (· rfl); (· first | exact fun _ _ _ => trivial | (intro t ht w; cases ht; simp [upE])); (· intro w' hw' _; go_simp; with_reducible rfl); simp only [Act.put, List.setIfInBounds_toArray, List.set_cons_zero, List.set_cons_succ]))
              (iterate 1 (refine' head_val ?_ ?_ ?_ ?_; rotate_left; (· rfl); (· first | exact fun _ _ _ => trivial | (intro t ht w; cases ht; simp [upE])); (· intro w' hw' _; go_simp; with_reducible rfl); simp only [Act.put, List.setIfInBounds_toArray, List.set_cons_zero, List.set_cons_succ]))
              (refine' head_load1 rfl ?_ rfl rfl X.out rfl Tryz.underlying56 rfl ?_; (first | exact fun _ _ _ => trivial | (intro t ht w; cases ht; simp [upE])); try simp only [Act.put, List.setIfInBounds_toArray, List.set_cons_zero, List.set_cons_succ])
              (iterate 2 (refine' head_val ?_ ?_ ?_ ?_; rotate_left; (· rfl); (· first | exact fun _ _ _ => trivial | (intro t ht w; cases ht; simp [upE])); (· intro w' hw' _; go_simp; with_reducible rfl); simp only [Act.put, List.setIfInBounds_toArray, List.set_cons_zero, List.set_cons_succ]))
              (refine' head_load1 rfl ?_ rfl rfl P.out rfl Tryz.underlying3 rfl ?_; (first | exact fun _ _ _ => trivial | (intro t ht w; cases ht; simp [upE])); try simp only [Act.put, List.setIfInBounds_toArray, List.set_cons_zero, List.set_cons_succ])
              (iterate 1 (refine' head_val ?_ ?_ ?_ ?_; rotate_left; (· rfl); (· first | exact fun _ _ _ => trivial | (intro t ht w; cases ht; simp [upE])); (· intro w' hw' _; go_simp; with_reducible rfl); simp only [Act.put, List.setIfInBounds_toArray, List.set_cons_zero, List.set_cons_succ]))
              (iterate 2 (refine' head_val ?_ ?_ ?_ ?_; rotate_left; (· rfl); (· first | exact fun _ _ _ => trivial | (intro t ht w; cases ht; simp [upE])); (· intro w' hw' _; go_simp; with_reducible rfl); simp only [Act.put, List.setIfInBounds_toArray, List.set_cons_zero, List.set_cons_succ]))
              (iterate 1 (refine' head_val ?_ ?_ ?_ ?_; rotate_left; (· rfl); (· first | exact fun _ _ _ => trivial | (intro t ht w; cases ht; simp [upE])); (· intro w' hw' _; go_simp; with_reducible rfl); simp only [Act.put, List.setIfInBounds_toArray, List.set_cons_zero, List.set_cons_succ]))
              (refine' head_load1 rfl ?_ rfl rfl X.out rfl Tryz.underlying56 rfl ?_; (first | exact fun _ _ _ => trivial | (intro t ht w; cases ht; simp [upE])); try simp only [Act.put, List.setIfInBounds_toArray, List.set_cons_zero, List.set_cons_succ])
              (iterate 2 (refine' head_val ?_ ?_ ?_ ?_; rotate_left; (· rfl); (· first | exact fun _ _ _ => trivial | (intro t ht w; cases ht; simp [upE])); (· intro w' hw' _; go_simp; with_reducible rfl); simp only [Act.put, List.setIfInBounds_toArray, List.set_cons_zero, List.set_cons_succ]))
              (refine' head_load1 rfl ?_ rfl rfl P.out rfl Tryz.underlying3 rfl ?_; (first | exact fun _ _ _ => trivial | (intro t ht w; cases ht; simp [upE])); try simp only [Act.put, List.setIfInBounds_toArray, List.set_cons_zero, List.set_cons_succ])
              (iterate 1 (refine' head_val ?_ ?_ ?_ ?_; rotate_left; (· rfl); (· first | exact fun _ _ _ => trivial | (intro t ht w; cases ht; simp [upE])); (· intro w' hw' _; go_simp; with_reducible rfl); simp only [Act.put, List.setIfInBounds_toArray, List.set_cons_zero, List.set_cons_succ]))
              (iterate 2 (refine' head_val ?_ ?_ ?_ ?_; rotate_left; (· rfl); (· first | exact fun _ _ _ => trivial | (intro t ht w; cases ht; simp [upE])); (· intro w' hw' _; go_simp; with_reducible rfl); simp only [Act.put, List.setIfInBounds_toArray, List.set_cons_zero, List.set_cons_succ]))
              (iterate 1 (refine' head_val ?_ ?_ ?_ ?_; rotate_left; (· rfl); (· first | exact fun _ _ _ => trivial | (intro t ht w; cases ht; simp [upE])); (· intro w' hw' _; go_simp; with_reducible rfl); simp only [Act.put, List.setIfInBounds_toArray, List.set_cons_zero, List.set_cons_succ]))
              (refine' head_load1 rfl ?_ rfl rfl X.out rfl Tryz.underlying56 rfl ?_; (first | exact fun _ _ _ => trivial | (intro t ht w; cases ht; simp [upE])); try simp only [Act.put, List.setIfInBounds_toArray, List.set_cons_zero, List.set_cons_succ])
              (iterate 2 (refine' head_val ?_ ?_ ?_ ?_; rotate_left; (· rfl); (· first | exact fun _ _ _ => trivial | (intro t ht w; cases ht; simp [upE])); (· intro w' hw' _; go_simp; with_reducible rfl); simp only [Act.put, List.setIfInBounds_toArray, List.set_cons_zero, List.set_cons_succ]))
              (refine' head_load1 rfl ?_ rfl rfl P.out rfl Tryz.underlying3 rfl ?_; (first | exact fun _ _ _ => trivial | (intro t ht w; cases ht; simp [upE])); try simp only [Act.put, List.setIfInBounds_toArray, List.set_cons_zero, List.set_cons_succ])
              (iterate 1 (refine' head_val ?_ ?_ ?_ ?_; rotate_left; (· rfl); (· first | exact fun _ _ _ => trivial | (intro t ht w; cases ht; simp [upE])); (· intro w' hw' _; go_simp; with_reducible rfl); simp only [Act.put, List.setIfInBounds_toArray, List.set_cons_zero, List.set_cons_succ]))
              (iterate 2 (refine' head_val ?_ ?_ ?_ ?_; rotate_left; (· rfl); (· first | exact fun _ _ _ => trivial | (intro t ht w; cases ht; simp [upE])); (· intro w' hw' _; go_simp; with_reducible rfl); simp only [Act.put, List.setIfInBounds_toArray, List.set_cons_zero, List.set_cons_succ]))
              refine head_nil ?_
              intro w6 hb _
              replace HB := hid (Grow.trans HB.out hb)
              replace P := hid (grow_block P.out hb)
              replace X := hid (grow_block X.out hb)
              clear hb
              refine wpList_nil ?_
              go_wp2_with fail
              go_ret
              exact ⟨rfl, HB.out⟩
            · have t4 : ((k : Int) == (h : Int)) = false := by simp; omega
              have HV := hid (show fitsB b h leaf n m k = false by rw [hfb]; simp [h4])
              clear h1 h2 h3 h4 hfb
              rw [HV.out]
              go_enter Tryz.func140, Tryz.ntmps140
              have HB := hid (grow_refl w)
              apply wp_seq_k; intro _ _; apply wp_region_lit
              refine op_boxC (cs := #[.int .i64 (b : Int), .int .i64 (h : Int)]) rfl rfl rfl rfl ?_
              intro gp w7 hgl hgu hb hr
              have PL := hid (Nat.le_trans HB.out.size hgl)
              replace HB := hid (Grow.trans HB.out hb)
              have P := hid hr; have PU := hid hgu
              clear hr hgl hgu hb
              try simp only [Act.put, List.setIfInBounds_toArray, List.set_cons_zero, List.set_cons_succ]
              refine op_boxC (cs := #[.int .i64 leaf, .slice A n c, .slice B m d, .slice C k e]) rfl rfl rfl rfl ?_
              intro gx w8 hgl hgu hb hr
              have XL := hid (Nat.le_trans HB.out.size hgl)
              replace HB := hid (Grow.trans HB.out hb)
              replace P := hid (grow_block P.out hb)
              have X := hid hr; have XU := hid hgu
              clear hr hgl hgu hb
              try simp only [Act.put, List.setIfInBounds_toArray, List.set_cons_zero, List.set_cons_succ]
              go_wp2_with fail
              (refine' wp_region_head 39 0 [_, _, _, _, _, _, _, _, _, _, _, _, _, _, _, _, _, _, _, _, _, _, _, _, _, _, _, _, _, _, _, _, _, _, _, _, _, _, _] rfl (by kernel_rfl) (by kernel_rfl) ?hreg6; case' hreg6 => simp only [List.take_succ_cons, List.take_zero, List.zip_cons_cons, List.zip_nil_right, List.drop_succ_cons, List.drop_zero, List.drop_nil])
              (refine' head_loadB rfl ?_ rfl rfl P.out Tryz.underlying54 rfl rfl ?_; (first | exact fun _ _ _ => trivial | (intro t ht w; cases ht; simp [upE])); try simp only [Act.put, List.setIfInBounds_toArray, List.set_cons_zero, List.set_cons_succ])
              (refine' head_call ?cw7 ?ce7 ?cr7 ?cc7 ?ch7; (case' cw7 => rfl); (case' ce7 => (first | exact fun _ _ _ => trivial | (intro t ht w; cases ht; simp [upE]))); (case' cr7 => (intro w'; go_simp; first | exact ⟨rfl, rfl⟩ | with_reducible rfl)); (case' cc7 => (intro w' hw' _; exact HKR.out w')); (case' ch7 => (try simp only [Act.put, List.setIfInBounds_toArray, List.set_cons_zero, List.set_cons_succ])))
              (iterate 1 (refine' head_val ?_ ?_ ?_ ?_; rotate_left; (· rfl); (· first | exact fun _ _ _ => trivial | (intro t ht w; cases ht; simp [upE])); (· intro w' hw' _; go_simp; with_reducible rfl); simp only [Act.put, List.setIfInBounds_toArray, List.set_cons_zero, List.set_cons_succ]))
              (iterate 1 (refine' head_val ?_ ?_ ?_ ?_; rotate_left; (· rfl); (· first | exact fun _ _ _ => trivial | (intro t ht w; cases ht; simp [upE])); (· intro w' hw' _; go_simp; with_reducible rfl); simp only [Act.put, List.setIfInBounds_toArray, List.set_cons_zero, List.set_cons_succ]))
              (refine' head_load1 rfl ?_ rfl rfl X.out rfl Tryz.underlying3 rfl ?_; (first | exact fun _ _ _ => trivial | (intro t ht w; cases ht; simp [upE])); try simp only [Act.put, List.setIfInBounds_toArray, List.set_cons_zero, List.set_cons_succ])
              (iterate 1 (refine' head_val ?_ ?_ ?_ ?_; rotate_left; (· rfl); (· first | exact fun _ _ _ => trivial | (intro t ht w; cases ht; simp [upE])); (· intro w' hw' _; go_simp; with_reducible rfl); simp only [Act.put, List.setIfInBounds_toArray, List.set_cons_zero, List.set_cons_succ]))
              (iterate 2 (refine' head_val ?_ ?_ ?_ ?_; rotate_left; (· rfl); (· first | exact fun _ _ _ => trivial | (intro t ht w; cases ht; simp [upE])); (· intro w' hw' _; go_simp; with_reducible rfl); simp only [Act.put, List.setIfInBounds_toArray, List.set_cons_zero, List.set_cons_succ]))
              (iterate 1 (refine' head_val ?_ ?_ ?_ ?_; rotate_left; (· rfl); (· first | exact fun _ _ _ => trivial | (intro t ht w; cases ht; simp [upE])); (· intro w' hw' _; go_simp; with_reducible rfl); simp only [Act.put, List.setIfInBounds_toArray, List.set_cons_zero, List.set_cons_succ]))
              (refine' head_load1 rfl ?_ rfl rfl X.out rfl Tryz.underlying3 rfl ?_; (first | exact fun _ _ _ => trivial | (intro t ht w; cases ht; simp [upE])); try simp only [Act.put, List.setIfInBounds_toArray, List.set_cons_zero, List.set_cons_succ])
              (refine' head_loadB rfl ?_ rfl rfl P.out Tryz.underlying54 rfl rfl ?_; (first | exact fun _ _ _ => trivial | (intro t ht w; cases ht; simp [upE])); try simp only [Act.put, List.setIfInBounds_toArray, List.set_cons_zero, List.set_cons_succ])
              (refine' head_call ?cw8 ?ce8 ?cr8 ?cc8 ?ch8; (case' cw8 => rfl); (case' ce8 => (first | exact fun _ _ _ => trivial | (intro t ht w; cases ht; simp [upE]))); (case' cr8 => (intro w'; go_simp; first | exact ⟨rfl, rfl⟩ | with_reducible rfl)); (case' cc8 => (intro w' hw' _; exact HLV.out w')); (case' ch8 => (try simp only [Act.put, List.setIfInBounds_toArray, List.set_cons_zero, List.set_cons_succ])))
              (iterate 1 (refine' head_val ?_ ?_ ?_ ?_; rotate_left; (· rfl); (· first | exact fun _ _ _ => trivial | (intro t ht w; cases ht; simp [upE])); (· intro w' hw' _; go_simp; with_reducible rfl); simp only [Act.put, List.setIfInBounds_toArray, List.set_cons_zero, List.set_cons_succ]))
              (iterate 2 (refine' head_val ?_ ?_ ?_ ?_; rotate_left; (· rfl); (· first | exact fun _ _ _ => trivial | (intro t ht w; cases ht; simp [upE])); (· intro w' hw' _; go_simp; with_reducible rfl); simp only [Act.put, List.setIfInBounds_toArray, List.set_cons_zero, List.set_cons_succ]))
              (iterate 1 (refine' head_val ?_ ?_ ?_ ?_; rotate_left; (· rfl); (· first | exact fun _ _ _ => trivial | (intro t ht w; cases ht; simp [upE])); (· intro w' hw' _; go_simp; with_reducible rfl); simp only [Act.put, List.setIfInBounds_toArray, List.set_cons_zero, List.set_cons_succ]))
              (refine' head_load1 rfl ?_ rfl rfl X.out rfl Tryz.underlying56 rfl ?_; (first | exact fun _ _ _ => trivial | (intro t ht w; cases ht; simp [upE])); try simp only [Act.put, List.setIfInBounds_toArray, List.set_cons_zero, List.set_cons_succ])
              (iterate 2 (refine' head_val ?_ ?_ ?_ ?_; rotate_left; (· rfl); (· first | exact fun _ _ _ => trivial | (intro t ht w; cases ht; simp [upE])); (· intro w' hw' _; go_simp; with_reducible rfl); simp only [Act.put, List.setIfInBounds_toArray, List.set_cons_zero, List.set_cons_succ]))
              (refine' head_load1 rfl ?_ rfl rfl P.out rfl Tryz.underlying3 rfl ?_; (first | exact fun _ _ _ => trivial | (intro t ht w; cases ht; simp [upE])); try simp only [Act.put, List.setIfInBounds_toArray, List.set_cons_zero, List.set_cons_succ])
              (iterate 1 (refine' head_val ?_ ?_ ?_ ?_; rotate_left; (· rfl); (· first | exact fun _ _ _ => trivial | (intro t ht w; cases ht; simp [upE])); (· intro w' hw' _; go_simp; with_reducible rfl); simp only [Act.put, List.setIfInBounds_toArray, List.set_cons_zero, List.set_cons_succ]))
              (iterate 2 (refine' head_val ?_ ?_ ?_ ?_; rotate_left; (· rfl); (· first | exact fun _ _ _ => trivial | (intro t ht w; cases ht; simp [upE])); (· intro w' hw' _; go_simp; with_reducible rfl); simp only [Act.put, List.setIfInBounds_toArray, List.set_cons_zero, List.set_cons_succ]))
              (iterate 1 (refine' head_val ?_ ?_ ?_ ?_; rotate_left; (· rfl); (· first | exact fun _ _ _ => trivial | (intro t ht w; cases ht; simp [upE])); (· intro w' hw' _; go_simp; with_reducible rfl); simp only [Act.put, List.setIfInBounds_toArray, List.set_cons_zero, List.set_cons_succ]))
              (refine' head_load1 rfl ?_ rfl rfl X.out rfl Tryz.underlying56 rfl ?_; (first | exact fun _ _ _ => trivial | (intro t ht w; cases ht; simp [upE])); try simp only [Act.put, List.setIfInBounds_toArray, List.set_cons_zero, List.set_cons_succ])
              (iterate 2 (refine' head_val ?_ ?_ ?_ ?_; rotate_left; (· rfl); (· first | exact fun _ _ _ => trivial | (intro t ht w; cases ht; simp [upE])); (· intro w' hw' _; go_simp; with_reducible rfl); simp only [Act.put, List.setIfInBounds_toArray, List.set_cons_zero, List.set_cons_succ]))
              (refine' head_load1 rfl ?_ rfl rfl P.out rfl Tryz.underlying3 rfl ?_; (first | exact fun _ _ _ => trivial | (intro t ht w; cases ht; simp [upE])); try simp only [Act.put, List.setIfInBounds_toArray, List.set_cons_zero, List.set_cons_succ])
              (iterate 1 (refine' head_val ?_ ?_ ?_ ?_; rotate_left; (· rfl); (· first | exact fun _ _ _ => trivial | (intro t ht w; cases ht; simp [upE])); (· intro w' hw' _; go_simp; with_reducible rfl); simp only [Act.put, List.setIfInBounds_toArray, List.set_cons_zero, List.set_cons_succ]))
              (iterate 2 (refine' head_val ?_ ?_ ?_ ?_; rotate_left; (· rfl); (· first | exact fun _ _ _ => trivial | (intro t ht w; cases ht; simp [upE])); (· intro w' hw' _; go_simp; with_reducible rfl); simp only [Act.put, List.setIfInBounds_toArray, List.set_cons_zero, List.set_cons_succ]))
              (iterate 1 (refine' head_val ?_ ?_ ?_ ?_; rotate_left; (· rfl); (· first | exact fun _ _ _ => trivial | (intro t ht w; cases ht; simp [upE])); (· intro w' hw' _; go_simp; with_reducible rfl); simp only [Act.put, List.setIfInBounds_toArray, List.set_cons_zero, List.set_cons_succ]))
              (refine' head_load1 rfl ?_ rfl rfl X.out rfl Tryz.underlying56 rfl ?_; (first | exact fun _ _ _ => trivial | (intro t ht w; cases ht; simp [upE])); try simp only [Act.put, List.setIfInBounds_toArray, List.set_cons_zero, List.set_cons_succ])
              (iterate 2 (refine' head_val ?_ ?_ ?_ ?_; rotate_left; (· rfl); (· first | exact fun _ _ _ => trivial | (intro t ht w; cases ht; simp [upE])); (· intro w' hw' _; go_simp; with_reducible rfl); simp only [Act.put, List.setIfInBounds_toArray, List.set_cons_zero, List.set_cons_succ]))
              (refine' head_load1 rfl ?_ rfl rfl P.out rfl Tryz.underlying3 rfl ?_; (first | exact fun _ _ _ => trivial | (intro t ht w; cases ht; simp [upE])); try simp only [Act.put, List.setIfInBounds_toArray, List.set_cons_zero, List.set_cons_succ])
              (iterate 1 (refine' head_val ?_ ?_ ?_ ?_; rotate_left; (· rfl); (· first | exact fun _ _ _ => trivial | (intro t ht w; cases ht; simp [upE])); (· intro w' hw' _; go_simp; with_reducible rfl); simp only [Act.put, List.setIfInBounds_toArray, List.set_cons_zero, List.set_cons_succ]))
              (iterate 2 (refine' head_val ?_ ?_ ?_ ?_; rotate_left; (· rfl); (· first | exact fun _ _ _ => trivial | (intro t ht w; cases ht; simp [upE])); (· intro w' hw' _; go_simp; with_reducible rfl); simp only [Act.put, List.setIfInBounds_toArray, List.set_cons_zero, List.set_cons_succ]))
              refine head_nil ?_
              intro w9 hb _
              replace HB := hid (Grow.trans HB.out hb)
              replace P := hid (grow_block P.out hb)
              replace X := hid (grow_block X.out hb)
              clear hb
              refine wpList_nil ?_
              go_wp2_with fail
              go_ret
              exact ⟨rfl, HB.out⟩
          · have t3 : ((m : Int) == (b : Int)) = false := by simp; omega
            have HV := hid (show fitsB b h leaf n m k = false by rw [hfb]; simp [h3])
            clear h1 h2 h3 hfb
            rw [HV.out]
            go_enter Tryz.func140, Tryz.ntmps140
            have HB := hid (grow_refl w)
            apply wp_seq_k; intro _ _; apply wp_region_lit
            refine op_boxC (cs := #[.int .i64 (b : Int), .int .i64 (h : Int)]) rfl rfl rfl rfl ?_
            intro gp w10 hgl hgu hb hr
            have PL := hid (Nat.le_trans HB.out.size hgl)
            replace HB := hid (Grow.trans HB.out hb)
            have P := hid hr; have PU := hid hgu
            clear hr hgl hgu hb
            try simp only [Act.put, List.setIfInBounds_toArray, List.set_cons_zero, List.set_cons_succ]
            refine op_boxC (cs := #[.int .i64 leaf, .slice A n c, .slice B m d, .slice C k e]) rfl rfl rfl rfl ?_
            intro gx w11 hgl hgu hb hr
            have XL := hid (Nat.le_trans HB.out.size hgl)
            replace HB := hid (Grow.trans HB.out hb)
            replace P := hid (grow_block P.out hb)
            have X := hid hr; have XU := hid hgu
            clear hr hgl hgu hb
            try simp only [Act.put, List.setIfInBounds_toArray, List.set_cons_zero, List.set_cons_succ]
            go_wp2_with fail
            (refine' wp_region_head 39 0 [_, _, _, _, _, _, _, _, _, _, _, _, _, _, _, _, _, _, _, _, _, _, _, _, _, _, _, _, _, _, _, _, _, _, _, _, _, _, _] rfl (by kernel_rfl) (by kernel_rfl) ?hreg9; case' hreg9 => simp only [List.take_succ_cons, List.take_zero, List.zip_cons_cons, List.zip_nil_right, List.drop_succ_cons, List.drop_zero, List.drop_nil])
            (refine' head_loadB rfl ?_ rfl rfl P.out Tryz.underlying54 rfl rfl ?_; (first | exact fun _ _ _ => trivial | (intro t ht w; cases ht; simp [upE])); try simp only [Act.put, List.setIfInBounds_toArray, List.set_cons_zero, List.set_cons_succ])
            (refine' head_call ?cw10 ?ce10 ?cr10 ?cc10 ?ch10; (case' cw10 => rfl); (case' ce10 => (first | exact fun _ _ _ => trivial | (intro t ht w; cases ht; simp [upE]))); (case' cr10 => (intro w'; go_simp; first | exact ⟨rfl, rfl⟩ | with_reducible rfl)); (case' cc10 => (intro w' hw' _; exact HKR.out w')); (case' ch10 => (try simp only [Act.put, List.setIfInBounds_toArray, List.set_cons_zero, List.set_cons_succ])))
            (iterate 1 (refine' head_val ?_ ?_ ?_ ?_; rotate_left; (· rfl); (· first | exact fun _ _ _ => trivial | (intro t ht w; cases ht; simp [upE])); (· intro w' hw' _; go_simp; with_reducible rfl); simp only [Act.put, List.setIfInBounds_toArray, List.set_cons_zero, List.set_cons_succ]))
            (iterate 1 (refine' head_val ?_ ?_ ?_ ?_; rotate_left; (· rfl); (· first | exact fun _ _ _ => trivial | (intro t ht w; cases ht; simp [upE])); (· intro w' hw' _; go_simp; with_reducible rfl); simp only [Act.put, List.setIfInBounds_toArray, List.set_cons_zero, List.set_cons_succ]))
            (refine' head_load1 rfl ?_ rfl rfl X.out rfl Tryz.underlying3 rfl ?_; (first | exact fun _ _ _ => trivial | (intro t ht w; cases ht; simp [upE])); try simp only [Act.put, List.setIfInBounds_toArray, List.set_cons_zero, List.set_cons_succ])
            (iterate 1 (refine' head_val ?_ ?_ ?_ ?_; rotate_left; (· rfl); (· first | exact fun _ _ _ => trivial | (intro t ht w; cases ht; simp [upE])); (· intro w' hw' _; go_simp; with_reducible rfl); simp only [Act.put, List.setIfInBounds_toArray, List.set_cons_zero, List.set_cons_succ]))
            (iterate 2 (refine' head_val ?_ ?_ ?_ ?_; rotate_left; (· rfl); (· first | exact fun _ _ _ => trivial | (intro t ht w; cases ht; simp [upE])); (· intro w' hw' _; go_simp; with_reducible rfl); simp only [Act.put, List.setIfInBounds_toArray, List.set_cons_zero, List.set_cons_succ]))
            (iterate 1 (refine' head_val ?_ ?_ ?_ ?_; rotate_left; (· rfl); (· first | exact fun _ _ _ => trivial | (intro t ht w; cases ht; simp [upE])); (· intro w' hw' _; go_simp; with_reducible rfl); simp only [Act.put, List.setIfInBounds_toArray, List.set_cons_zero, List.set_cons_succ]))
            (refine' head_load1 rfl ?_ rfl rfl X.out rfl Tryz.underlying3 rfl ?_; (first | exact fun _ _ _ => trivial | (intro t ht w; cases ht; simp [upE])); try simp only [Act.put, List.setIfInBounds_toArray, List.set_cons_zero, List.set_cons_succ])
            (refine' head_loadB rfl ?_ rfl rfl P.out Tryz.underlying54 rfl rfl ?_; (first | exact fun _ _ _ => trivial | (intro t ht w; cases ht; simp [upE])); try simp only [Act.put, List.setIfInBounds_toArray, List.set_cons_zero, List.set_cons_succ])
            (refine' head_call ?cw11 ?ce11 ?cr11 ?cc11 ?ch11; (case' cw11 => rfl); (case' ce11 => (first | exact fun _ _ _ => trivial | (intro t ht w; cases ht; simp [upE]))); (case' cr11 => (intro w'; go_simp; first | exact ⟨rfl, rfl⟩ | with_reducible rfl)); (case' cc11 => (intro w' hw' _; exact HLV.out w')); (case' ch11 => (try simp only [Act.put, List.setIfInBounds_toArray, List.set_cons_zero, List.set_cons_succ])))
            (iterate 1 (refine' head_val ?_ ?_ ?_ ?_; rotate_left; (· rfl); (· first | exact fun _ _ _ => trivial | (intro t ht w; cases ht; simp [upE])); (· intro w' hw' _; go_simp; with_reducible rfl); simp only [Act.put, List.setIfInBounds_toArray, List.set_cons_zero, List.set_cons_succ]))
            (iterate 2 (refine' head_val ?_ ?_ ?_ ?_; rotate_left; (· rfl); (· first | exact fun _ _ _ => trivial | (intro t ht w; cases ht; simp [upE])); (· intro w' hw' _; go_simp; with_reducible rfl); simp only [Act.put, List.setIfInBounds_toArray, List.set_cons_zero, List.set_cons_succ]))
            (iterate 1 (refine' head_val ?_ ?_ ?_ ?_; rotate_left; (· rfl); (· first | exact fun _ _ _ => trivial | (intro t ht w; cases ht; simp [upE])); (· intro w' hw' _; go_simp; with_reducible rfl); simp only [Act.put, List.setIfInBounds_toArray, List.set_cons_zero, List.set_cons_succ]))
            (refine' head_load1 rfl ?_ rfl rfl X.out rfl Tryz.underlying56 rfl ?_; (first | exact fun _ _ _ => trivial | (intro t ht w; cases ht; simp [upE])); try simp only [Act.put, List.setIfInBounds_toArray, List.set_cons_zero, List.set_cons_succ])
            (iterate 2 (refine' head_val ?_ ?_ ?_ ?_; rotate_left; (· rfl); (· first | exact fun _ _ _ => trivial | (intro t ht w; cases ht; simp [upE])); (· intro w' hw' _; go_simp; with_reducible rfl); simp only [Act.put, List.setIfInBounds_toArray, List.set_cons_zero, List.set_cons_succ]))
            (refine' head_load1 rfl ?_ rfl rfl P.out rfl Tryz.underlying3 rfl ?_; (first | exact fun _ _ _ => trivial | (intro t ht w; cases ht; simp [upE])); try simp only [Act.put, List.setIfInBounds_toArray, List.set_cons_zero, List.set_cons_succ])
            (iterate 1 (refine' head_val ?_ ?_ ?_ ?_; rotate_left; (· rfl); (· first | exact fun _ _ _ => trivial | (intro t ht w; cases ht; simp [upE])); (· intro w' hw' _; go_simp; with_reducible rfl); simp only [Act.put, List.setIfInBounds_toArray, List.set_cons_zero, List.set_cons_succ]))
            (iterate 2 (refine' head_val ?_ ?_ ?_ ?_; rotate_left; (· rfl); (· first | exact fun _ _ _ => trivial | (intro t ht w; cases ht; simp [upE])); (· intro w' hw' _; go_simp; with_reducible rfl); simp only [Act.put, List.setIfInBounds_toArray, List.set_cons_zero, List.set_cons_succ]))
            (iterate 1 (refine' head_val ?_ ?_ ?_ ?_; rotate_left; (· rfl); (· first | exact fun _ _ _ => trivial | (intro t ht w; cases ht; simp [upE])); (· intro w' hw' _; go_simp; with_reducible rfl); simp only [Act.put, List.setIfInBounds_toArray, List.set_cons_zero, List.set_cons_succ]))
            (refine' head_load1 rfl ?_ rfl rfl X.out rfl Tryz.underlying56 rfl ?_; (first | exact fun _ _ _ => trivial | (intro t ht w; cases ht; simp [upE])); try simp only [Act.put, List.setIfInBounds_toArray, List.set_cons_zero, List.set_cons_succ])
            (iterate 2 (refine' head_val ?_ ?_ ?_ ?_; rotate_left; (· rfl); (· first | exact fun _ _ _ => trivial | (intro t ht w; cases ht; simp [upE])); (· intro w' hw' _; go_simp; with_reducible rfl); simp only [Act.put, List.setIfInBounds_toArray, List.set_cons_zero, List.set_cons_succ]))
            (refine' head_load1 rfl ?_ rfl rfl P.out rfl Tryz.underlying3 rfl ?_; (first | exact fun _ _ _ => trivial | (intro t ht w; cases ht; simp [upE])); try simp only [Act.put, List.setIfInBounds_toArray, List.set_cons_zero, List.set_cons_succ])
            (iterate 1 (refine' head_val ?_ ?_ ?_ ?_; rotate_left; (· rfl); (· first | exact fun _ _ _ => trivial | (intro t ht w; cases ht; simp [upE])); (· intro w' hw' _; go_simp; with_reducible rfl); simp only [Act.put, List.setIfInBounds_toArray, List.set_cons_zero, List.set_cons_succ]))
            (iterate 2 (refine' head_val ?_ ?_ ?_ ?_; rotate_left; (· rfl); (· first | exact fun _ _ _ => trivial | (intro t ht w; cases ht; simp [upE])); (· intro w' hw' _; go_simp; with_reducible rfl); simp only [Act.put, List.setIfInBounds_toArray, List.set_cons_zero, List.set_cons_succ]))
            (iterate 6 (refine' head_skip (V := fun _ _ => True) ?_ ?_ ?_; (· rfl); (· exact fun _ _ _ => trivial); simp only [Act.put, List.setIfInBounds_toArray, List.set_cons_zero, List.set_cons_succ]))
            (iterate 2 (refine' head_val ?_ ?_ ?_ ?_; rotate_left; (· rfl); (· first | exact fun _ _ _ => trivial | (intro t ht w; cases ht; simp [upE])); (· intro w' hw' _; go_simp; with_reducible rfl); simp only [Act.put, List.setIfInBounds_toArray, List.set_cons_zero, List.set_cons_succ]))
            refine head_nil ?_
            intro w12 hb _
            replace HB := hid (Grow.trans HB.out hb)
            replace P := hid (grow_block P.out hb)
            replace X := hid (grow_block X.out hb)
            clear hb
            refine wpList_nil ?_
            go_wp2_with fail
            go_ret
            exact ⟨rfl, HB.out⟩
        · have t2 : ((n : Int) == (b : Int)) = false := by simp; omega
          have HV := hid (show fitsB b h leaf n m k = false by rw [hfb]; simp [h2])
          clear h1 h2 hfb
          rw [HV.out]
          go_enter Tryz.func140, Tryz.ntmps140
          have HB := hid (grow_refl w)
          apply wp_seq_k; intro _ _; apply wp_region_lit
          refine op_boxC (cs := #[.int .i64 (b : Int), .int .i64 (h : Int)]) rfl rfl rfl rfl ?_
          intro gp w13 hgl hgu hb hr
          have PL := hid (Nat.le_trans HB.out.size hgl)
          replace HB := hid (Grow.trans HB.out hb)
          have P := hid hr; have PU := hid hgu
          clear hr hgl hgu hb
          try simp only [Act.put, List.setIfInBounds_toArray, List.set_cons_zero, List.set_cons_succ]
          refine op_boxC (cs := #[.int .i64 leaf, .slice A n c, .slice B m d, .slice C k e]) rfl rfl rfl rfl ?_
          intro gx w14 hgl hgu hb hr
          have XL := hid (Nat.le_trans HB.out.size hgl)
          replace HB := hid (Grow.trans HB.out hb)
          replace P := hid (grow_block P.out hb)
          have X := hid hr; have XU := hid hgu
          clear hr hgl hgu hb
          try simp only [Act.put, List.setIfInBounds_toArray, List.set_cons_zero, List.set_cons_succ]
          go_wp2_with fail
          (refine' wp_region_head 39 0 [_, _, _, _, _, _, _, _, _, _, _, _, _, _, _, _, _, _, _, _, _, _, _, _, _, _, _, _, _, _, _, _, _, _, _, _, _, _, _] rfl (by kernel_rfl) (by kernel_rfl) ?hreg12; case' hreg12 => simp only [List.take_succ_cons, List.take_zero, List.zip_cons_cons, List.zip_nil_right, List.drop_succ_cons, List.drop_zero, List.drop_nil])
          (refine' head_loadB rfl ?_ rfl rfl P.out Tryz.underlying54 rfl rfl ?_; (first | exact fun _ _ _ => trivial | (intro t ht w; cases ht; simp [upE])); try simp only [Act.put, List.setIfInBounds_toArray, List.set_cons_zero, List.set_cons_succ])
          (refine' head_call ?cw13 ?ce13 ?cr13 ?cc13 ?ch13; (case' cw13 => rfl); (case' ce13 => (first | exact fun _ _ _ => trivial | (intro t ht w; cases ht; simp [upE]))); (case' cr13 => (intro w'; go_simp; first | exact ⟨rfl, rfl⟩ | with_reducible rfl)); (case' cc13 => (intro w' hw' _; exact HKR.out w')); (case' ch13 => (try simp only [Act.put, List.setIfInBounds_toArray, List.set_cons_zero, List.set_cons_succ])))
          (iterate 1 (refine' head_val ?_ ?_ ?_ ?_; rotate_left; (· rfl); (· first | exact fun _ _ _ => trivial | (intro t ht w; cases ht; simp [upE])); (· intro w' hw' _; go_simp; with_reducible rfl); simp only [Act.put, List.setIfInBounds_toArray, List.set_cons_zero, List.set_cons_succ]))
          (iterate 1 (refine' head_val ?_ ?_ ?_ ?_; rotate_left; (· rfl); (· first | exact fun _ _ _ => trivial | (intro t ht w; cases ht; simp [upE])); (· intro w' hw' _; go_simp; with_reducible rfl); simp only [Act.put, List.setIfInBounds_toArray, List.set_cons_zero, List.set_cons_succ]))
          (refine' head_load1 rfl ?_ rfl rfl X.out rfl Tryz.underlying3 rfl ?_; (first | exact fun _ _ _ => trivial | (intro t ht w; cases ht; simp [upE])); try simp only [Act.put, List.setIfInBounds_toArray, List.set_cons_zero, List.set_cons_succ])
          (iterate 1 (refine' head_val ?_ ?_ ?_ ?_; rotate_left; (· rfl); (· first | exact fun _ _ _ => trivial | (intro t ht w; cases ht; simp [upE])); (· intro w' hw' _; go_simp; with_reducible rfl); simp only [Act.put, List.setIfInBounds_toArray, List.set_cons_zero, List.set_cons_succ]))
          (iterate 2 (refine' head_val ?_ ?_ ?_ ?_; rotate_left; (· rfl); (· first | exact fun _ _ _ => trivial | (intro t ht w; cases ht; simp [upE])); (· intro w' hw' _; go_simp; with_reducible rfl); simp only [Act.put, List.setIfInBounds_toArray, List.set_cons_zero, List.set_cons_succ]))
          (iterate 1 (refine' head_val ?_ ?_ ?_ ?_; rotate_left; (· rfl); (· first | exact fun _ _ _ => trivial | (intro t ht w; cases ht; simp [upE])); (· intro w' hw' _; go_simp; with_reducible rfl); simp only [Act.put, List.setIfInBounds_toArray, List.set_cons_zero, List.set_cons_succ]))
          (refine' head_load1 rfl ?_ rfl rfl X.out rfl Tryz.underlying3 rfl ?_; (first | exact fun _ _ _ => trivial | (intro t ht w; cases ht; simp [upE])); try simp only [Act.put, List.setIfInBounds_toArray, List.set_cons_zero, List.set_cons_succ])
          (refine' head_loadB rfl ?_ rfl rfl P.out Tryz.underlying54 rfl rfl ?_; (first | exact fun _ _ _ => trivial | (intro t ht w; cases ht; simp [upE])); try simp only [Act.put, List.setIfInBounds_toArray, List.set_cons_zero, List.set_cons_succ])
          (refine' head_call ?cw14 ?ce14 ?cr14 ?cc14 ?ch14; (case' cw14 => rfl); (case' ce14 => (first | exact fun _ _ _ => trivial | (intro t ht w; cases ht; simp [upE]))); (case' cr14 => (intro w'; go_simp; first | exact ⟨rfl, rfl⟩ | with_reducible rfl)); (case' cc14 => (intro w' hw' _; exact HLV.out w')); (case' ch14 => (try simp only [Act.put, List.setIfInBounds_toArray, List.set_cons_zero, List.set_cons_succ])))
          (iterate 1 (refine' head_val ?_ ?_ ?_ ?_; rotate_left; (· rfl); (· first | exact fun _ _ _ => trivial | (intro t ht w; cases ht; simp [upE])); (· intro w' hw' _; go_simp; with_reducible rfl); simp only [Act.put, List.setIfInBounds_toArray, List.set_cons_zero, List.set_cons_succ]))
          (iterate 2 (refine' head_val ?_ ?_ ?_ ?_; rotate_left; (· rfl); (· first | exact fun _ _ _ => trivial | (intro t ht w; cases ht; simp [upE])); (· intro w' hw' _; go_simp; with_reducible rfl); simp only [Act.put, List.setIfInBounds_toArray, List.set_cons_zero, List.set_cons_succ]))
          (iterate 1 (refine' head_val ?_ ?_ ?_ ?_; rotate_left; (· rfl); (· first | exact fun _ _ _ => trivial | (intro t ht w; cases ht; simp [upE])); (· intro w' hw' _; go_simp; with_reducible rfl); simp only [Act.put, List.setIfInBounds_toArray, List.set_cons_zero, List.set_cons_succ]))
          (refine' head_load1 rfl ?_ rfl rfl X.out rfl Tryz.underlying56 rfl ?_; (first | exact fun _ _ _ => trivial | (intro t ht w; cases ht; simp [upE])); try simp only [Act.put, List.setIfInBounds_toArray, List.set_cons_zero, List.set_cons_succ])
          (iterate 2 (refine' head_val ?_ ?_ ?_ ?_; rotate_left; (· rfl); (· first | exact fun _ _ _ => trivial | (intro t ht w; cases ht; simp [upE])); (· intro w' hw' _; go_simp; with_reducible rfl); simp only [Act.put, List.setIfInBounds_toArray, List.set_cons_zero, List.set_cons_succ]))
          (refine' head_load1 rfl ?_ rfl rfl P.out rfl Tryz.underlying3 rfl ?_; (first | exact fun _ _ _ => trivial | (intro t ht w; cases ht; simp [upE])); try simp only [Act.put, List.setIfInBounds_toArray, List.set_cons_zero, List.set_cons_succ])
          (iterate 1 (refine' head_val ?_ ?_ ?_ ?_; rotate_left; (· rfl); (· first | exact fun _ _ _ => trivial | (intro t ht w; cases ht; simp [upE])); (· intro w' hw' _; go_simp; with_reducible rfl); simp only [Act.put, List.setIfInBounds_toArray, List.set_cons_zero, List.set_cons_succ]))
          (iterate 2 (refine' head_val ?_ ?_ ?_ ?_; rotate_left; (· rfl); (· first | exact fun _ _ _ => trivial | (intro t ht w; cases ht; simp [upE])); (· intro w' hw' _; go_simp; with_reducible rfl); simp only [Act.put, List.setIfInBounds_toArray, List.set_cons_zero, List.set_cons_succ]))
          (iterate 6 (refine' head_skip (V := fun _ _ => True) ?_ ?_ ?_; (· rfl); (· exact fun _ _ _ => trivial); simp only [Act.put, List.setIfInBounds_toArray, List.set_cons_zero, List.set_cons_succ]))
          (iterate 2 (refine' head_val ?_ ?_ ?_ ?_; rotate_left; (· rfl); (· first | exact fun _ _ _ => trivial | (intro t ht w; cases ht; simp [upE])); (· intro w' hw' _; go_simp; with_reducible rfl); simp only [Act.put, List.setIfInBounds_toArray, List.set_cons_zero, List.set_cons_succ]))
          (iterate 6 (refine' head_skip (V := fun _ _ => True) ?_ ?_ ?_; (· rfl); (· exact fun _ _ _ => trivial); simp only [Act.put, List.setIfInBounds_toArray, List.set_cons_zero, List.set_cons_succ]))
          (iterate 2 (refine' head_val ?_ ?_ ?_ ?_; rotate_left; (· rfl); (· first | exact fun _ _ _ => trivial | (intro t ht w; cases ht; simp [upE])); (· intro w' hw' _; go_simp; with_reducible rfl); simp only [Act.put, List.setIfInBounds_toArray, List.set_cons_zero, List.set_cons_succ]))
          refine head_nil ?_
          intro w15 hb _
          replace HB := hid (Grow.trans HB.out hb)
          replace P := hid (grow_block P.out hb)
          replace X := hid (grow_block X.out hb)
          clear hb
          refine wpList_nil ?_
          go_wp2_with fail
          go_ret
          exact ⟨rfl, HB.out⟩
      · have t1 : decide (leaf < (N : Int)) = false := by simpa using h1
        have HV := hid (show fitsB b h leaf n m k = false by rw [hfb]; simp [h1])
        clear h1 hfb
        rw [HV.out]
        go_enter Tryz.func140, Tryz.ntmps140
        have HB := hid (grow_refl w)
        apply wp_seq_k; intro _ _; apply wp_region_lit
        refine op_boxC (cs := #[.int .i64 (b : Int), .int .i64 (h : Int)]) rfl rfl rfl rfl ?_
        intro gp w16 hgl hgu hb hr
        have PL := hid (Nat.le_trans HB.out.size hgl)
        replace HB := hid (Grow.trans HB.out hb)
        have P := hid hr; have PU := hid hgu
        clear hr hgl hgu hb
        try simp only [Act.put, List.setIfInBounds_toArray, List.set_cons_zero, List.set_cons_succ]
        refine op_boxC (cs := #[.int .i64 leaf, .slice A n c, .slice B m d, .slice C k e]) rfl rfl rfl rfl ?_
        intro gx w17 hgl hgu hb hr
        have XL := hid (Nat.le_trans HB.out.size hgl)
        replace HB := hid (Grow.trans HB.out hb)
        replace P := hid (grow_block P.out hb)
        have X := hid hr; have XU := hid hgu
        clear hr hgl hgu hb
        try simp only [Act.put, List.setIfInBounds_toArray, List.set_cons_zero, List.set_cons_succ]
        go_wp2_with fail
        (refine' wp_region_head 39 0 [_, _, _, _, _, _, _, _, _, _, _, _, _, _, _, _, _, _, _, _, _, _, _, _, _, _, _, _, _, _, _, _, _, _, _, _, _, _, _] rfl (by kernel_rfl) (by kernel_rfl) ?hreg15; case' hreg15 => simp only [List.take_succ_cons, List.take_zero, List.zip_cons_cons, List.zip_nil_right, List.drop_succ_cons, List.drop_zero, List.drop_nil])
        (refine' head_loadB rfl ?_ rfl rfl P.out Tryz.underlying54 rfl rfl ?_; (first | exact fun _ _ _ => trivial | (intro t ht w; cases ht; simp [upE])); try simp only [Act.put, List.setIfInBounds_toArray, List.set_cons_zero, List.set_cons_succ])
        (refine' head_call ?cw16 ?ce16 ?cr16 ?cc16 ?ch16; (case' cw16 => rfl); (case' ce16 => (first | exact fun _ _ _ => trivial | (intro t ht w; cases ht; simp [upE]))); (case' cr16 => (intro w'; go_simp; first | exact ⟨rfl, rfl⟩ | with_reducible rfl)); (case' cc16 => (intro w' hw' _; exact HKR.out w')); (case' ch16 => (try simp only [Act.put, List.setIfInBounds_toArray, List.set_cons_zero, List.set_cons_succ])))
        (iterate 1 (refine' head_val ?_ ?_ ?_ ?_; rotate_left; (· rfl); (· first | exact fun _ _ _ => trivial | (intro t ht w; cases ht; simp [upE])); (· intro w' hw' _; go_simp; with_reducible rfl); simp only [Act.put, List.setIfInBounds_toArray, List.set_cons_zero, List.set_cons_succ]))
        (iterate 1 (refine' head_val ?_ ?_ ?_ ?_; rotate_left; (· rfl); (· first | exact fun _ _ _ => trivial | (intro t ht w; cases ht; simp [upE])); (· intro w' hw' _; go_simp; with_reducible rfl); simp only [Act.put, List.setIfInBounds_toArray, List.set_cons_zero, List.set_cons_succ]))
        (refine' head_load1 rfl ?_ rfl rfl X.out rfl Tryz.underlying3 rfl ?_; (first | exact fun _ _ _ => trivial | (intro t ht w; cases ht; simp [upE])); try simp only [Act.put, List.setIfInBounds_toArray, List.set_cons_zero, List.set_cons_succ])
        (iterate 1 (refine' head_val ?_ ?_ ?_ ?_; rotate_left; (· rfl); (· first | exact fun _ _ _ => trivial | (intro t ht w; cases ht; simp [upE])); (· intro w' hw' _; go_simp; with_reducible rfl); simp only [Act.put, List.setIfInBounds_toArray, List.set_cons_zero, List.set_cons_succ]))
        (iterate 2 (refine' head_val ?_ ?_ ?_ ?_; rotate_left; (· rfl); (· first | exact fun _ _ _ => trivial | (intro t ht w; cases ht; simp [upE])); (· intro w' hw' _; go_simp; with_reducible rfl); simp only [Act.put, List.setIfInBounds_toArray, List.set_cons_zero, List.set_cons_succ]))
        (iterate 1 (refine' head_val ?_ ?_ ?_ ?_; rotate_left; (· rfl); (· first | exact fun _ _ _ => trivial | (intro t ht w; cases ht; simp [upE])); (· intro w' hw' _; go_simp; with_reducible rfl); simp only [Act.put, List.setIfInBounds_toArray, List.set_cons_zero, List.set_cons_succ]))
        (refine' head_load1 rfl ?_ rfl rfl X.out rfl Tryz.underlying3 rfl ?_; (first | exact fun _ _ _ => trivial | (intro t ht w; cases ht; simp [upE])); try simp only [Act.put, List.setIfInBounds_toArray, List.set_cons_zero, List.set_cons_succ])
        (refine' head_loadB rfl ?_ rfl rfl P.out Tryz.underlying54 rfl rfl ?_; (first | exact fun _ _ _ => trivial | (intro t ht w; cases ht; simp [upE])); try simp only [Act.put, List.setIfInBounds_toArray, List.set_cons_zero, List.set_cons_succ])
        (refine' head_call ?cw17 ?ce17 ?cr17 ?cc17 ?ch17; (case' cw17 => rfl); (case' ce17 => (first | exact fun _ _ _ => trivial | (intro t ht w; cases ht; simp [upE]))); (case' cr17 => (intro w'; go_simp; first | exact ⟨rfl, rfl⟩ | with_reducible rfl)); (case' cc17 => (intro w' hw' _; exact HLV.out w')); (case' ch17 => (try simp only [Act.put, List.setIfInBounds_toArray, List.set_cons_zero, List.set_cons_succ])))
        (iterate 1 (refine' head_val ?_ ?_ ?_ ?_; rotate_left; (· rfl); (· first | exact fun _ _ _ => trivial | (intro t ht w; cases ht; simp [upE])); (· intro w' hw' _; go_simp; with_reducible rfl); simp only [Act.put, List.setIfInBounds_toArray, List.set_cons_zero, List.set_cons_succ]))
        (iterate 2 (refine' head_val ?_ ?_ ?_ ?_; rotate_left; (· rfl); (· first | exact fun _ _ _ => trivial | (intro t ht w; cases ht; simp [upE])); (· intro w' hw' _; go_simp; with_reducible rfl); simp only [Act.put, List.setIfInBounds_toArray, List.set_cons_zero, List.set_cons_succ]))
        (iterate 6 (refine' head_skip (V := fun _ _ => True) ?_ ?_ ?_; (· rfl); (· exact fun _ _ _ => trivial); simp only [Act.put, List.setIfInBounds_toArray, List.set_cons_zero, List.set_cons_succ]))
        (iterate 2 (refine' head_val ?_ ?_ ?_ ?_; rotate_left; (· rfl); (· first | exact fun _ _ _ => trivial | (intro t ht w; cases ht; simp [upE])); (· intro w' hw' _; go_simp; with_reducible rfl); simp only [Act.put, List.setIfInBounds_toArray, List.set_cons_zero, List.set_cons_succ]))
        (iterate 6 (refine' head_skip (V := fun _ _ => True) ?_ ?_ ?_; (· rfl); (· exact fun _ _ _ => trivial); simp only [Act.put, List.setIfInBounds_toArray, List.set_cons_zero, List.set_cons_succ]))
        (iterate 2 (refine' head_val ?_ ?_ ?_ ?_; rotate_left; (· rfl); (· first | exact fun _ _ _ => trivial | (intro t ht w; cases ht; simp [upE])); (· intro w' hw' _; go_simp; with_reducible rfl); simp only [Act.put, List.setIfInBounds_toArray, List.set_cons_zero, List.set_cons_succ]))
        (iterate 6 (refine' head_skip (V := fun _ _ => True) ?_ ?_ ?_; (· rfl); (· exact fun _ _ _ => trivial); simp only [Act.put, List.setIfInBounds_toArray, List.set_cons_zero, List.set_cons_succ]))
        (iterate 2 (refine' head_val ?_ ?_ ?_ ?_; rotate_left; (· rfl); (· first | exact fun _ _ _ => trivial | (intro t ht w; cases ht; simp [upE])); (· intro w' hw' _; go_simp; with_reducible rfl); simp only [Act.put, List.setIfInBounds_toArray, List.set_cons_zero, List.set_cons_succ]))
        refine head_nil ?_
        intro w18 hb _
        replace HB := hid (Grow.trans HB.out hb)
        replace P := hid (grow_block P.out hb)
        replace X := hid (grow_block X.out hb)
        clear hb
        refine wpList_nil ?_
        go_wp2_with fail
        go_ret
        exact ⟨rfl, HB.out⟩
    · have t0 : decide (0 ≤ leaf) = false := by simpa using h0
      have HV := hid (show fitsB b h leaf n m k = false by rw [hfb]; simp [h0])
      clear hfb
      rw [HV.out]
      go_enter Tryz.func140, Tryz.ntmps140
      have HB := hid (grow_refl w)
      apply wp_seq_k; intro _ _; apply wp_region_lit
      refine op_boxC (cs := #[.int .i64 (b : Int), .int .i64 (h : Int)]) rfl rfl rfl rfl ?_
      intro gp w19 hgl hgu hb hr
      have PL := hid (Nat.le_trans HB.out.size hgl)
      replace HB := hid (Grow.trans HB.out hb)
      have P := hid hr; have PU := hid hgu
      clear hr hgl hgu hb
      try simp only [Act.put, List.setIfInBounds_toArray, List.set_cons_zero, List.set_cons_succ]
      refine op_boxC (cs := #[.int .i64 leaf, .slice A n c, .slice B m d, .slice C k e]) rfl rfl rfl rfl ?_
      intro gx w20 hgl hgu hb hr
      have XL := hid (Nat.le_trans HB.out.size hgl)
      replace HB := hid (Grow.trans HB.out hb)
      replace P := hid (grow_block P.out hb)
      have X := hid hr; have XU := hid hgu
      clear hr hgl hgu hb
      try simp only [Act.put, List.setIfInBounds_toArray, List.set_cons_zero, List.set_cons_succ]
      go_wp2_with fail
      (refine' wp_region_head 39 0 [_, _, _, _, _, _, _, _, _, _, _, _, _, _, _, _, _, _, _, _, _, _, _, _, _, _, _, _, _, _, _, _, _, _, _, _, _, _, _] rfl (by kernel_rfl) (by kernel_rfl) ?hreg18; case' hreg18 => simp only [List.take_succ_cons, List.take_zero, List.zip_cons_cons, List.zip_nil_right, List.drop_succ_cons, List.drop_zero, List.drop_nil])
      (refine' head_loadB rfl ?_ rfl rfl P.out Tryz.underlying54 rfl rfl ?_; (first | exact fun _ _ _ => trivial | (intro t ht w; cases ht; simp [upE])); try simp only [Act.put, List.setIfInBounds_toArray, List.set_cons_zero, List.set_cons_succ])
      (refine' head_call ?cw19 ?ce19 ?cr19 ?cc19 ?ch19; (case' cw19 => rfl); (case' ce19 => (first | exact fun _ _ _ => trivial | (intro t ht w; cases ht; simp [upE]))); (case' cr19 => (intro w'; go_simp; first | exact ⟨rfl, rfl⟩ | with_reducible rfl)); (case' cc19 => (intro w' hw' _; exact HKR.out w')); (case' ch19 => (try simp only [Act.put, List.setIfInBounds_toArray, List.set_cons_zero, List.set_cons_succ])))
      (iterate 1 (refine' head_val ?_ ?_ ?_ ?_; rotate_left; (· rfl); (· first | exact fun _ _ _ => trivial | (intro t ht w; cases ht; simp [upE])); (· intro w' hw' _; go_simp; with_reducible rfl); simp only [Act.put, List.setIfInBounds_toArray, List.set_cons_zero, List.set_cons_succ]))
      (iterate 1 (refine' head_val ?_ ?_ ?_ ?_; rotate_left; (· rfl); (· first | exact fun _ _ _ => trivial | (intro t ht w; cases ht; simp [upE])); (· intro w' hw' _; go_simp; with_reducible rfl); simp only [Act.put, List.setIfInBounds_toArray, List.set_cons_zero, List.set_cons_succ]))
      (refine' head_load1 rfl ?_ rfl rfl X.out rfl Tryz.underlying3 rfl ?_; (first | exact fun _ _ _ => trivial | (intro t ht w; cases ht; simp [upE])); try simp only [Act.put, List.setIfInBounds_toArray, List.set_cons_zero, List.set_cons_succ])
      (iterate 1 (refine' head_val ?_ ?_ ?_ ?_; rotate_left; (· rfl); (· first | exact fun _ _ _ => trivial | (intro t ht w; cases ht; simp [upE])); (· intro w' hw' _; go_simp; with_reducible rfl); simp only [Act.put, List.setIfInBounds_toArray, List.set_cons_zero, List.set_cons_succ]))
      (iterate 2 (refine' head_val ?_ ?_ ?_ ?_; rotate_left; (· rfl); (· first | exact fun _ _ _ => trivial | (intro t ht w; cases ht; simp [upE])); (· intro w' hw' _; go_simp; with_reducible rfl); simp only [Act.put, List.setIfInBounds_toArray, List.set_cons_zero, List.set_cons_succ]))
      (iterate 5 (refine' head_skip (V := fun _ _ => True) ?_ ?_ ?_; (· rfl); (· exact fun _ _ _ => trivial); simp only [Act.put, List.setIfInBounds_toArray, List.set_cons_zero, List.set_cons_succ]))
      (iterate 2 (refine' head_val ?_ ?_ ?_ ?_; rotate_left; (· rfl); (· first | exact fun _ _ _ => trivial | (intro t ht w; cases ht; simp [upE])); (· intro w' hw' _; go_simp; with_reducible rfl); simp only [Act.put, List.setIfInBounds_toArray, List.set_cons_zero, List.set_cons_succ]))
      (iterate 6 (refine' head_skip (V := fun _ _ => True) ?_ ?_ ?_; (· rfl); (· exact fun _ _ _ => trivial); simp only [Act.put, List.setIfInBounds_toArray, List.set_cons_zero, List.set_cons_succ]))
      (iterate 2 (refine' head_val ?_ ?_ ?_ ?_; rotate_left; (· rfl); (· first | exact fun _ _ _ => trivial | (intro t ht w; cases ht; simp [upE])); (· intro w' hw' _; go_simp; with_reducible rfl); simp only [Act.put, List.setIfInBounds_toArray, List.set_cons_zero, List.set_cons_succ]))
      (iterate 6 (refine' head_skip (V := fun _ _ => True) ?_ ?_ ?_; (· rfl); (· exact fun _ _ _ => trivial); simp only [Act.put, List.setIfInBounds_toArray, List.set_cons_zero, List.set_cons_succ]))
      (iterate 2 (refine' head_val ?_ ?_ ?_ ?_; rotate_left; (· rfl); (· first | exact fun _ _ _ => trivial | (intro t ht w; cases ht; simp [upE])); (· intro w' hw' _; go_simp; with_reducible rfl); simp only [Act.put, List.setIfInBounds_toArray, List.set_cons_zero, List.set_cons_succ]))
      (iterate 6 (refine' head_skip (V := fun _ _ => True) ?_ ?_ ?_; (· rfl); (· exact fun _ _ _ => trivial); simp only [Act.put, List.setIfInBounds_toArray, List.set_cons_zero, List.set_cons_succ]))
      (iterate 2 (refine' head_val ?_ ?_ ?_ ?_; rotate_left; (· rfl); (· first | exact fun _ _ _ => trivial | (intro t ht w; cases ht; simp [upE])); (· intro w' hw' _; go_simp; with_reducible rfl); simp only [Act.put, List.setIfInBounds_toArray, List.set_cons_zero, List.set_cons_succ]))
      refine head_nil ?_
      intro w21 hb _
      replace HB := hid (Grow.trans HB.out hb)
      replace P := hid (grow_block P.out hb)
      replace X := hid (grow_block X.out hb)
      clear hb
      refine wpList_nil ?_
      go_wp2_with fail
      go_ret
      exact ⟨rfl, HB.out⟩
theorem refFits8 (b h leaf : Int) (A B C : Option Addr) (n m k c d e : Nat) (w : World) :
    Calls Tryz.prog 33 #[.agg #[.int .i64 b, .int .i64 h], .agg #[.int .i64 leaf, .slice A n c, .slice B m d, .slice C k e]] w fun e w' => e = .returned (.bool (fitsB b h leaf n m k)) ∧ Below w.heap.size w w' := by
  cases hk : ktB b h with
  | false =>
    have HV := hid (show fitsB b h leaf n m k = false by simp [fitsB, hk])
    have HKR := hid (fun w => refRight7 b h w)
    rw [hk] at HKR
    clear hk
    rw [HV.out]
    go_enter Tryz.func33, Tryz.ntmps33
    have HB := hid (grow_refl w)
    apply wp_seq_k; intro _ _; apply wp_region_lit
    refine op_boxC (cs := #[.int .i64 b, .int .i64 h]) rfl rfl rfl rfl ?_
    intro gp w1 hgl hgu hb hr
    have PL := hid (Nat.le_trans HB.out.size hgl)
    replace HB := hid (Grow.trans HB.out hb)
    have P := hid hr; have PU := hid hgu
    clear hr hgl hgu hb
    try simp only [Act.put, List.setIfInBounds_toArray, List.set_cons_zero, List.set_cons_succ]
    refine op_boxC (cs := #[.int .i64 leaf, .slice A n c, .slice B m d, .slice C k e]) rfl rfl rfl rfl ?_
    intro gx w2 hgl hgu hb hr
    have XL := hid (Nat.le_trans HB.out.size hgl)
    replace HB := hid (Grow.trans HB.out hb)
    replace P := hid (grow_block P.out hb)
    have X := hid hr; have XU := hid hgu
    clear hr hgl hgu hb
    try simp only [Act.put, List.setIfInBounds_toArray, List.set_cons_zero, List.set_cons_succ]
    go_wp2_with fail
    (refine' wp_region_head 40 0 [_, _, _, _, _, _, _, _, _, _, _, _, _, _, _, _, _, _, _, _, _, _, _, _, _, _, _, _, _, _, _, _, _, _, _, _, _, _, _, _] rfl (by kernel_rfl) (by kernel_rfl) ?hreg20; case' hreg20 => simp only [List.take_succ_cons, List.take_zero, List.zip_cons_cons, List.zip_nil_right, List.drop_succ_cons, List.drop_zero, List.drop_nil])
    (refine' head_loadB rfl ?_ rfl rfl P.out Tryz.underlying54 rfl rfl ?_; (first | exact fun _ _ _ => trivial | (intro t ht w; cases ht; simp [upE])); try simp only [Act.put, List.setIfInBounds_toArray, List.set_cons_zero, List.set_cons_succ])
    (refine' head_call ?cw21 ?ce21 ?cr21 ?cc21 ?ch21; (case' cw21 => rfl); (case' ce21 => (first | exact fun _ _ _ => trivial | (intro t ht w; cases ht; simp [upE]))); (case' cr21 => (intro w'; go_simp; first | exact ⟨rfl, rfl⟩ | with_reducible rfl)); (case' cc21 => (intro w' hw' _; exact HKR.out w')); (case' ch21 => (try simp only [Act.put, List.setIfInBounds_toArray, List.set_cons_zero, List.set_cons_succ])))
    (iterate 1 (refine' head_val ?_ ?_ ?_ ?_; rotate_left; (· rfl); (· first | exact fun _ _ _ => trivial | (intro t ht w; cases ht; simp [upE])); (· intro w' hw' _; go_simp; with_reducible rfl); simp only [Act.put, List.setIfInBounds_toArray, List.set_cons_zero, List.set_cons_succ]))
    (iterate 3 (refine' head_skip (V := fun _ _ => True) ?_ ?_ ?_; (· rfl); (· exact fun _ _ _ => trivial); simp only [Act.put, List.setIfInBounds_toArray, List.set_cons_zero, List.set_cons_succ]))
    (iterate 2 (refine' head_val ?_ ?_ ?_ ?_; rotate_left; (· rfl); (· first | exact fun _ _ _ => trivial | (intro t ht w; cases ht; simp [upE])); (· intro w' hw' _; go_simp; with_reducible rfl); simp only [Act.put, List.setIfInBounds_toArray, List.set_cons_zero, List.set_cons_succ]))
    (iterate 6 (refine' head_skip (V := fun _ _ => True) ?_ ?_ ?_; (· rfl); (· exact fun _ _ _ => trivial); simp only [Act.put, List.setIfInBounds_toArray, List.set_cons_zero, List.set_cons_succ]))
    (iterate 2 (refine' head_val ?_ ?_ ?_ ?_; rotate_left; (· rfl); (· first | exact fun _ _ _ => trivial | (intro t ht w; cases ht; simp [upE])); (· intro w' hw' _; go_simp; with_reducible rfl); simp only [Act.put, List.setIfInBounds_toArray, List.set_cons_zero, List.set_cons_succ]))
    (iterate 6 (refine' head_skip (V := fun _ _ => True) ?_ ?_ ?_; (· rfl); (· exact fun _ _ _ => trivial); simp only [Act.put, List.setIfInBounds_toArray, List.set_cons_zero, List.set_cons_succ]))
    (iterate 2 (refine' head_val ?_ ?_ ?_ ?_; rotate_left; (· rfl); (· first | exact fun _ _ _ => trivial | (intro t ht w; cases ht; simp [upE])); (· intro w' hw' _; go_simp; with_reducible rfl); simp only [Act.put, List.setIfInBounds_toArray, List.set_cons_zero, List.set_cons_succ]))
    (iterate 6 (refine' head_skip (V := fun _ _ => True) ?_ ?_ ?_; (· rfl); (· exact fun _ _ _ => trivial); simp only [Act.put, List.setIfInBounds_toArray, List.set_cons_zero, List.set_cons_succ]))
    (iterate 2 (refine' head_val ?_ ?_ ?_ ?_; rotate_left; (· rfl); (· first | exact fun _ _ _ => trivial | (intro t ht w; cases ht; simp [upE])); (· intro w' hw' _; go_simp; with_reducible rfl); simp only [Act.put, List.setIfInBounds_toArray, List.set_cons_zero, List.set_cons_succ]))
    (iterate 6 (refine' head_skip (V := fun _ _ => True) ?_ ?_ ?_; (· rfl); (· exact fun _ _ _ => trivial); simp only [Act.put, List.setIfInBounds_toArray, List.set_cons_zero, List.set_cons_succ]))
    (iterate 2 (refine' head_val ?_ ?_ ?_ ?_; rotate_left; (· rfl); (· first | exact fun _ _ _ => trivial | (intro t ht w; cases ht; simp [upE])); (· intro w' hw' _; go_simp; with_reducible rfl); simp only [Act.put, List.setIfInBounds_toArray, List.set_cons_zero, List.set_cons_succ]))
    refine head_nil ?_
    intro w3 hb _
    replace HB := hid (Grow.trans HB.out hb)
    replace P := hid (grow_block P.out hb)
    replace X := hid (grow_block X.out hb)
    clear hb
    refine wpList_nil ?_
    go_wp2_with fail
    go_ret
    exact ⟨rfl, HB.out⟩
  | true =>
    obtain ⟨q1, q2, q3, q4⟩ := kt_bounds hk
    obtain ⟨b, rfl⟩ : ∃ n : Nat, b = (n : Int) := ⟨b.toNat, by omega⟩
    obtain ⟨h, rfl⟩ : ∃ n : Nat, h = (n : Int) := ⟨h.toNat, by omega⟩
    have HKR := hid (fun w => refRight7 b h w)
    rw [hk] at HKR
    have HLV := hid (fun w => refPower7 h (by omega) w)
    have hfb : fitsB b h leaf n m k = (decide (0 ≤ leaf) && (decide (leaf < ((2 ^ h : Nat) : Int)) && (decide (n = b) && (decide (m = b) && decide (k = h))))) := by
      unfold fitsB
      rw [hk, Int.toNat_natCast, Bool.true_and, show decide ((n : Int) = (b : Int)) = decide (n = b) by simp; omega, show decide ((m : Int) = (b : Int)) = decide (m = b) by simp; omega, show decide ((k : Int) = (h : Int)) = decide (k = h) by simp; omega]
    generalize 2 ^ h = N at *
    clear hk q1 q2 q3 q4
    by_cases h0 : 0 ≤ leaf
    · by_cases h1 : leaf < (N : Int)
      · have t1 : decide (leaf < (N : Int)) = true := by simpa using h1
        by_cases h2 : n = b
        · have t2 : ((n : Int) == (b : Int)) = true := by simp; omega
          by_cases h3 : m = b
          · have t3 : ((m : Int) == (b : Int)) = true := by simp; omega
            by_cases h4 : k = h
            · have t4 : ((k : Int) == (h : Int)) = true := by simp; omega
              have HV := hid (show fitsB b h leaf n m k = true by rw [hfb]; simp [h0, h1, h2, h3, h4])
              clear h1 h2 h3 h4 hfb
              rw [HV.out]
              go_enter Tryz.func33, Tryz.ntmps33
              have HB := hid (grow_refl w)
              apply wp_seq_k; intro _ _; apply wp_region_lit
              refine op_boxC (cs := #[.int .i64 (b : Int), .int .i64 (h : Int)]) rfl rfl rfl rfl ?_
              intro gp w4 hgl hgu hb hr
              have PL := hid (Nat.le_trans HB.out.size hgl)
              replace HB := hid (Grow.trans HB.out hb)
              have P := hid hr; have PU := hid hgu
              clear hr hgl hgu hb
              try simp only [Act.put, List.setIfInBounds_toArray, List.set_cons_zero, List.set_cons_succ]
              refine op_boxC (cs := #[.int .i64 leaf, .slice A n c, .slice B m d, .slice C k e]) rfl rfl rfl rfl ?_
              intro gx w5 hgl hgu hb hr
              have XL := hid (Nat.le_trans HB.out.size hgl)
              replace HB := hid (Grow.trans HB.out hb)
              replace P := hid (grow_block P.out hb)
              have X := hid hr; have XU := hid hgu
              clear hr hgl hgu hb
              try simp only [Act.put, List.setIfInBounds_toArray, List.set_cons_zero, List.set_cons_succ]
              go_wp2_with fail
              (refine' wp_region_head 40 0 [_, _, _, _, _, _, _, _, _, _, _, _, _, _, _, _, _, _, _, _, _, _, _, _, _, _, _, _, _, _, _, _, _, _, _, _, _, _, _, _] rfl (by kernel_rfl) (by kernel_rfl) ?hreg22; case' hreg22 => simp only [List.take_succ_cons, List.take_zero, List.zip_cons_cons, List.zip_nil_right, List.drop_succ_cons, List.drop_zero, List.drop_nil])
              (refine' head_loadB rfl ?_ rfl rfl P.out Tryz.underlying54 rfl rfl ?_; (first | exact fun _ _ _ => trivial | (intro t ht w; cases ht; simp [upE])); try simp only [Act.put, List.setIfInBounds_toArray, List.set_cons_zero, List.set_cons_succ])
              (refine' head_call ?cw23 ?ce23 ?cr23 ?cc23 ?ch23; (case' cw23 => rfl); (case' ce23 => (first | exact fun _ _ _ => trivial | (intro t ht w; cases ht; simp [upE]))); (case' cr23 => (intro w'; go_simp; first | exact ⟨rfl, rfl⟩ | with_reducible rfl)); (case' cc23 => (intro w' hw' _; exact HKR.out w')); (case' ch23 => (try simp only [Act.put, List.setIfInBounds_toArray, List.set_cons_zero, List.set_cons_succ])))
              (iterate 1 (refine' head_val ?_ ?_ ?_ ?_; rotate_left; (· rfl); (· first | exact fun _ _ _ => trivial | (intro t ht w; cases ht; simp [upE])); (· intro w' hw' _; go_simp; with_reducible rfl); simp only [Act.put, List.setIfInBounds_toArray, List.set_cons_zero, List.set_cons_succ]))
              (iterate 1 (refine' head_val ?_ ?_ ?_ ?_; rotate_left; (· rfl); (· first | exact fun _ _ _ => trivial | (intro t ht w; cases ht; simp [upE])); (· intro w' hw' _; go_simp; with_reducible rfl); simp only [Act.put, List.setIfInBounds_toArray, List.set_cons_zero, List.set_cons_succ]))
              (refine' head_load1 rfl ?_ rfl rfl X.out rfl Tryz.underlying3 rfl ?_; (first | exact fun _ _ _ => trivial | (intro t ht w; cases ht; simp [upE])); try simp only [Act.put, List.setIfInBounds_toArray, List.set_cons_zero, List.set_cons_succ])
              (iterate 1 (refine' head_val ?_ ?_ ?_ ?_; rotate_left; (· rfl); (· first | exact fun _ _ _ => trivial | (intro t ht w; cases ht; simp [upE])); (· intro w' hw' _; go_simp; with_reducible rfl); simp only [Act.put, List.setIfInBounds_toArray, List.set_cons_zero, List.set_cons_succ]))
              (iterate 2 (refine' head_val ?_ ?_ ?_ ?_; rotate_left; (· rfl); (· first | exact fun _ _ _ => trivial | (intro t ht w; cases ht; simp [upE])); (· intro w' hw' _; go_simp; with_reducible rfl); simp only [Act.put, List.setIfInBounds_toArray, List.set_cons_zero, List.set_cons_succ]))
              (iterate 1 (refine' head_val ?_ ?_ ?_ ?_; rotate_left; (· rfl); (· first | exact fun _ _ _ => trivial | (intro t ht w; cases ht; simp [upE])); (· intro w' hw' _; go_simp; with_reducible rfl); simp only [Act.put, List.setIfInBounds_toArray, List.set_cons_zero, List.set_cons_succ]))
              (refine' head_load1 rfl ?_ rfl rfl X.out rfl Tryz.underlying3 rfl ?_; (first | exact fun _ _ _ => trivial | (intro t ht w; cases ht; simp [upE])); try simp only [Act.put, List.setIfInBounds_toArray, List.set_cons_zero, List.set_cons_succ])
              (iterate 1 (refine' head_val ?_ ?_ ?_ ?_; rotate_left; (· rfl); (· first | exact fun _ _ _ => trivial | (intro t ht w; cases ht; simp [upE])); (· intro w' hw' _; go_simp; with_reducible rfl); simp only [Act.put, List.setIfInBounds_toArray, List.set_cons_zero, List.set_cons_succ]))
              (refine' head_load1 rfl ?_ rfl rfl P.out rfl Tryz.underlying3 rfl ?_; (first | exact fun _ _ _ => trivial | (intro t ht w; cases ht; simp [upE])); try simp only [Act.put, List.setIfInBounds_toArray, List.set_cons_zero, List.set_cons_succ])
              (refine' head_call ?cw24 ?ce24 ?cr24 ?cc24 ?ch24; (case' cw24 => rfl); (case' ce24 => (first | exact fun _ _ _ => trivial | (intro t ht w; cases ht; simp [upE]))); (case' cr24 => (intro w'; go_simp; first | exact ⟨rfl, rfl⟩ | with_reducible rfl)); (case' cc24 => (intro w' hw' _; exact HLV.out w')); (case' ch24 => (try simp only [Act.put, List.setIfInBounds_toArray, List.set_cons_zero, List.set_cons_succ])))
              (iterate 1 (refine' head_val ?_ ?_ ?_ ?_; rotate_left; (· rfl); (· first | exact fun _ _ _ => trivial | (intro t ht w; cases ht; simp [upE])); (· intro w' hw' _; go_simp; with_reducible rfl); simp only [Act.put, List.setIfInBounds_toArray, List.set_cons_zero, List.set_cons_succ]))
              (iterate 2 (refine' head_val ?_ ?_ ?_ ?_; rotate_left; (· rfl); (· first | exact fun _ _ _ => trivial | (intro t ht w; cases ht; simp [upE])); (· intro w' hw' _; go_simp; with_reducible rfl); simp only [Act.put, List.setIfInBounds_toArray, List.set_cons_zero, List.set_cons_succ]))
              (iterate 1 (refine' head_val ?_ ?_ ?_ ?_; rotate_left; (· rfl); (· first | exact fun _ _ _ => trivial | (intro t ht w; cases ht; simp [upE])); (· intro w' hw' _; go_simp; with_reducible rfl); simp only [Act.put, List.setIfInBounds_toArray, List.set_cons_zero, List.set_cons_succ]))
              (refine' head_load1 rfl ?_ rfl rfl X.out rfl Tryz.underlying56 rfl ?_; (first | exact fun _ _ _ => trivial | (intro t ht w; cases ht; simp [upE])); try simp only [Act.put, List.setIfInBounds_toArray, List.set_cons_zero, List.set_cons_succ])
              (iterate 2 (refine' head_val ?_ ?_ ?_ ?_; rotate_left; (· rfl); (· first | exact fun _ _ _ => trivial | (intro t ht w; cases ht; simp [upE])); (· intro w' hw' _; go_simp; with_reducible rfl); simp only [Act.put, List.setIfInBounds_toArray, List.set_cons_zero, List.set_cons_succ]))
              (refine' head_load1 rfl ?_ rfl rfl P.out rfl Tryz.underlying3 rfl ?_; (first | exact fun _ _ _ => trivial | (intro t ht w; cases ht; simp [upE])); try simp only [Act.put, List.setIfInBounds_toArray, List.set_cons_zero, List.set_cons_succ])
              (iterate 1 (refine' head_val ?_ ?_ ?_ ?_; rotate_left; (· rfl); (· first | exact fun _ _ _ => trivial | (intro t ht w; cases ht; simp [upE])); (· intro w' hw' _; go_simp; with_reducible rfl); simp only [Act.put, List.setIfInBounds_toArray, List.set_cons_zero, List.set_cons_succ]))
              (iterate 2 (refine' head_val ?_ ?_ ?_ ?_; rotate_left; (· rfl); (· first | exact fun _ _ _ => trivial | (intro t ht w; cases ht; simp [upE])); (· intro w' hw' _; go_simp; with_reducible rfl); simp only [Act.put, List.setIfInBounds_toArray, List.set_cons_zero, List.set_cons_succ]))
              (iterate 1 (refine' head_val ?_ ?_ ?_ ?_; rotate_left; (· rfl); (· first | exact fun _ _ _ => trivial | (intro t ht w; cases ht; simp [upE])); (· intro w' hw' _; go_simp; with_reducible rfl); simp only [Act.put, List.setIfInBounds_toArray, List.set_cons_zero, List.set_cons_succ]))
              (refine' head_load1 rfl ?_ rfl rfl X.out rfl Tryz.underlying56 rfl ?_; (first | exact fun _ _ _ => trivial | (intro t ht w; cases ht; simp [upE])); try simp only [Act.put, List.setIfInBounds_toArray, List.set_cons_zero, List.set_cons_succ])
              (iterate 2 (refine' head_val ?_ ?_ ?_ ?_; rotate_left; (· rfl); (· first | exact fun _ _ _ => trivial | (intro t ht w; cases ht; simp [upE])); (· intro w' hw' _; go_simp; with_reducible rfl); simp only [Act.put, List.setIfInBounds_toArray, List.set_cons_zero, List.set_cons_succ]))
              (refine' head_load1 rfl ?_ rfl rfl P.out rfl Tryz.underlying3 rfl ?_; (first | exact fun _ _ _ => trivial | (intro t ht w; cases ht; simp [upE])); try simp only [Act.put, List.setIfInBounds_toArray, List.set_cons_zero, List.set_cons_succ])
              (iterate 1 (refine' head_val ?_ ?_ ?_ ?_; rotate_left; (· rfl); (· first | exact fun _ _ _ => trivial | (intro t ht w; cases ht; simp [upE])); (· intro w' hw' _; go_simp; with_reducible rfl); simp only [Act.put, List.setIfInBounds_toArray, List.set_cons_zero, List.set_cons_succ]))
              (iterate 2 (refine' head_val ?_ ?_ ?_ ?_; rotate_left; (· rfl); (· first | exact fun _ _ _ => trivial | (intro t ht w; cases ht; simp [upE])); (· intro w' hw' _; go_simp; with_reducible rfl); simp only [Act.put, List.setIfInBounds_toArray, List.set_cons_zero, List.set_cons_succ]))
              (iterate 1 (refine' head_val ?_ ?_ ?_ ?_; rotate_left; (· rfl); (· first | exact fun _ _ _ => trivial | (intro t ht w; cases ht; simp [upE])); (· intro w' hw' _; go_simp; with_reducible rfl); simp only [Act.put, List.setIfInBounds_toArray, List.set_cons_zero, List.set_cons_succ]))
              (refine' head_load1 rfl ?_ rfl rfl X.out rfl Tryz.underlying56 rfl ?_; (first | exact fun _ _ _ => trivial | (intro t ht w; cases ht; simp [upE])); try simp only [Act.put, List.setIfInBounds_toArray, List.set_cons_zero, List.set_cons_succ])
              (iterate 2 (refine' head_val ?_ ?_ ?_ ?_; rotate_left; (· rfl); (· first | exact fun _ _ _ => trivial | (intro t ht w; cases ht; simp [upE])); (· intro w' hw' _; go_simp; with_reducible rfl); simp only [Act.put, List.setIfInBounds_toArray, List.set_cons_zero, List.set_cons_succ]))
              (refine' head_load1 rfl ?_ rfl rfl P.out rfl Tryz.underlying3 rfl ?_; (first | exact fun _ _ _ => trivial | (intro t ht w; cases ht; simp [upE])); try simp only [Act.put, List.setIfInBounds_toArray, List.set_cons_zero, List.set_cons_succ])
              (iterate 1 (refine' head_val ?_ ?_ ?_ ?_; rotate_left; (· rfl); (· first | exact fun _ _ _ => trivial | (intro t ht w; cases ht; simp [upE])); (· intro w' hw' _; go_simp; with_reducible rfl); simp only [Act.put, List.setIfInBounds_toArray, List.set_cons_zero, List.set_cons_succ]))
              (iterate 2 (refine' head_val ?_ ?_ ?_ ?_; rotate_left; (· rfl); (· first | exact fun _ _ _ => trivial | (intro t ht w; cases ht; simp [upE])); (· intro w' hw' _; go_simp; with_reducible rfl); simp only [Act.put, List.setIfInBounds_toArray, List.set_cons_zero, List.set_cons_succ]))
              refine head_nil ?_
              intro w6 hb _
              replace HB := hid (Grow.trans HB.out hb)
              replace P := hid (grow_block P.out hb)
              replace X := hid (grow_block X.out hb)
              clear hb
              refine wpList_nil ?_
              go_wp2_with fail
              go_ret
              exact ⟨rfl, HB.out⟩
            · have t4 : ((k : Int) == (h : Int)) = false := by simp; omega
              have HV := hid (show fitsB b h leaf n m k = false by rw [hfb]; simp [h4])
              clear h1 h2 h3 h4 hfb
              rw [HV.out]
              go_enter Tryz.func33, Tryz.ntmps33
              have HB := hid (grow_refl w)
              apply wp_seq_k; intro _ _; apply wp_region_lit
              refine op_boxC (cs := #[.int .i64 (b : Int), .int .i64 (h : Int)]) rfl rfl rfl rfl ?_
              intro gp w7 hgl hgu hb hr
              have PL := hid (Nat.le_trans HB.out.size hgl)
              replace HB := hid (Grow.trans HB.out hb)
              have P := hid hr; have PU := hid hgu
              clear hr hgl hgu hb
              try simp only [Act.put, List.setIfInBounds_toArray, List.set_cons_zero, List.set_cons_succ]
              refine op_boxC (cs := #[.int .i64 leaf, .slice A n c, .slice B m d, .slice C k e]) rfl rfl rfl rfl ?_
              intro gx w8 hgl hgu hb hr
              have XL := hid (Nat.le_trans HB.out.size hgl)
              replace HB := hid (Grow.trans HB.out hb)
              replace P := hid (grow_block P.out hb)
              have X := hid hr; have XU := hid hgu
              clear hr hgl hgu hb
              try simp only [Act.put, List.setIfInBounds_toArray, List.set_cons_zero, List.set_cons_succ]
              go_wp2_with fail
              (refine' wp_region_head 40 0 [_, _, _, _, _, _, _, _, _, _, _, _, _, _, _, _, _, _, _, _, _, _, _, _, _, _, _, _, _, _, _, _, _, _, _, _, _, _, _, _] rfl (by kernel_rfl) (by kernel_rfl) ?hreg25; case' hreg25 => simp only [List.take_succ_cons, List.take_zero, List.zip_cons_cons, List.zip_nil_right, List.drop_succ_cons, List.drop_zero, List.drop_nil])
              (refine' head_loadB rfl ?_ rfl rfl P.out Tryz.underlying54 rfl rfl ?_; (first | exact fun _ _ _ => trivial | (intro t ht w; cases ht; simp [upE])); try simp only [Act.put, List.setIfInBounds_toArray, List.set_cons_zero, List.set_cons_succ])
              (refine' head_call ?cw26 ?ce26 ?cr26 ?cc26 ?ch26; (case' cw26 => rfl); (case' ce26 => (first | exact fun _ _ _ => trivial | (intro t ht w; cases ht; simp [upE]))); (case' cr26 => (intro w'; go_simp; first | exact ⟨rfl, rfl⟩ | with_reducible rfl)); (case' cc26 => (intro w' hw' _; exact HKR.out w')); (case' ch26 => (try simp only [Act.put, List.setIfInBounds_toArray, List.set_cons_zero, List.set_cons_succ])))
              (iterate 1 (refine' head_val ?_ ?_ ?_ ?_; rotate_left; (· rfl); (· first | exact fun _ _ _ => trivial | (intro t ht w; cases ht; simp [upE])); (· intro w' hw' _; go_simp; with_reducible rfl); simp only [Act.put, List.setIfInBounds_toArray, List.set_cons_zero, List.set_cons_succ]))
              (iterate 1 (refine' head_val ?_ ?_ ?_ ?_; rotate_left; (· rfl); (· first | exact fun _ _ _ => trivial | (intro t ht w; cases ht; simp [upE])); (· intro w' hw' _; go_simp; with_reducible rfl); simp only [Act.put, List.setIfInBounds_toArray, List.set_cons_zero, List.set_cons_succ]))
              (refine' head_load1 rfl ?_ rfl rfl X.out rfl Tryz.underlying3 rfl ?_; (first | exact fun _ _ _ => trivial | (intro t ht w; cases ht; simp [upE])); try simp only [Act.put, List.setIfInBounds_toArray, List.set_cons_zero, List.set_cons_succ])
              (iterate 1 (refine' head_val ?_ ?_ ?_ ?_; rotate_left; (· rfl); (· first | exact fun _ _ _ => trivial | (intro t ht w; cases ht; simp [upE])); (· intro w' hw' _; go_simp; with_reducible rfl); simp only [Act.put, List.setIfInBounds_toArray, List.set_cons_zero, List.set_cons_succ]))
              (iterate 2 (refine' head_val ?_ ?_ ?_ ?_; rotate_left; (· rfl); (· first | exact fun _ _ _ => trivial | (intro t ht w; cases ht; simp [upE])); (· intro w' hw' _; go_simp; with_reducible rfl); simp only [Act.put, List.setIfInBounds_toArray, List.set_cons_zero, List.set_cons_succ]))
              (iterate 1 (refine' head_val ?_ ?_ ?_ ?_; rotate_left; (· rfl); (· first | exact fun _ _ _ => trivial | (intro t ht w; cases ht; simp [upE])); (· intro w' hw' _; go_simp; with_reducible rfl); simp only [Act.put, List.setIfInBounds_toArray, List.set_cons_zero, List.set_cons_succ]))
              (refine' head_load1 rfl ?_ rfl rfl X.out rfl Tryz.underlying3 rfl ?_; (first | exact fun _ _ _ => trivial | (intro t ht w; cases ht; simp [upE])); try simp only [Act.put, List.setIfInBounds_toArray, List.set_cons_zero, List.set_cons_succ])
              (iterate 1 (refine' head_val ?_ ?_ ?_ ?_; rotate_left; (· rfl); (· first | exact fun _ _ _ => trivial | (intro t ht w; cases ht; simp [upE])); (· intro w' hw' _; go_simp; with_reducible rfl); simp only [Act.put, List.setIfInBounds_toArray, List.set_cons_zero, List.set_cons_succ]))
              (refine' head_load1 rfl ?_ rfl rfl P.out rfl Tryz.underlying3 rfl ?_; (first | exact fun _ _ _ => trivial | (intro t ht w; cases ht; simp [upE])); try simp only [Act.put, List.setIfInBounds_toArray, List.set_cons_zero, List.set_cons_succ])
              (refine' head_call ?cw27 ?ce27 ?cr27 ?cc27 ?ch27; (case' cw27 => rfl); (case' ce27 => (first | exact fun _ _ _ => trivial | (intro t ht w; cases ht; simp [upE]))); (case' cr27 => (intro w'; go_simp; first | exact ⟨rfl, rfl⟩ | with_reducible rfl)); (case' cc27 => (intro w' hw' _; exact HLV.out w')); (case' ch27 => (try simp only [Act.put, List.setIfInBounds_toArray, List.set_cons_zero, List.set_cons_succ])))
              (iterate 1 (refine' head_val ?_ ?_ ?_ ?_; rotate_left; (· rfl); (· first | exact fun _ _ _ => trivial | (intro t ht w; cases ht; simp [upE])); (· intro w' hw' _; go_simp; with_reducible rfl); simp only [Act.put, List.setIfInBounds_toArray, List.set_cons_zero, List.set_cons_succ]))
              (iterate 2 (refine' head_val ?_ ?_ ?_ ?_; rotate_left; (· rfl); (· first | exact fun _ _ _ => trivial | (intro t ht w; cases ht; simp [upE])); (· intro w' hw' _; go_simp; with_reducible rfl); simp only [Act.put, List.setIfInBounds_toArray, List.set_cons_zero, List.set_cons_succ]))
              (iterate 1 (refine' head_val ?_ ?_ ?_ ?_; rotate_left; (· rfl); (· first | exact fun _ _ _ => trivial | (intro t ht w; cases ht; simp [upE])); (· intro w' hw' _; go_simp; with_reducible rfl); simp only [Act.put, List.setIfInBounds_toArray, List.set_cons_zero, List.set_cons_succ]))
              (refine' head_load1 rfl ?_ rfl rfl X.out rfl Tryz.underlying56 rfl ?_; (first | exact fun _ _ _ => trivial | (intro t ht w; cases ht; simp [upE])); try simp only [Act.put, List.setIfInBounds_toArray, List.set_cons_zero, List.set_cons_succ])
              (iterate 2 (refine' head_val ?_ ?_ ?_ ?_; rotate_left; (· rfl); (· first | exact fun _ _ _ => trivial | (intro t ht w; cases ht; simp [upE])); (· intro w' hw' _; go_simp; with_reducible rfl); simp only [Act.put, List.setIfInBounds_toArray, List.set_cons_zero, List.set_cons_succ]))
              (refine' head_load1 rfl ?_ rfl rfl P.out rfl Tryz.underlying3 rfl ?_; (first | exact fun _ _ _ => trivial | (intro t ht w; cases ht; simp [upE])); try simp only [Act.put, List.setIfInBounds_toArray, List.set_cons_zero, List.set_cons_succ])
              (iterate 1 (refine' head_val ?_ ?_ ?_ ?_; rotate_left; (· rfl); (· first | exact fun _ _ _ => trivial | (intro t ht w; cases ht; simp [upE])); (· intro w' hw' _; go_simp; with_reducible rfl); simp only [Act.put, List.setIfInBounds_toArray, List.set_cons_zero, List.set_cons_succ]))
              (iterate 2 (refine' head_val ?_ ?_ ?_ ?_; rotate_left; (· rfl); (· first | exact fun _ _ _ => trivial | (intro t ht w; cases ht; simp [upE])); (· intro w' hw' _; go_simp; with_reducible rfl); simp only [Act.put, List.setIfInBounds_toArray, List.set_cons_zero, List.set_cons_succ]))
              (iterate 1 (refine' head_val ?_ ?_ ?_ ?_; rotate_left; (· rfl); (· first | exact fun _ _ _ => trivial | (intro t ht w; cases ht; simp [upE])); (· intro w' hw' _; go_simp; with_reducible rfl); simp only [Act.put, List.setIfInBounds_toArray, List.set_cons_zero, List.set_cons_succ]))
              (refine' head_load1 rfl ?_ rfl rfl X.out rfl Tryz.underlying56 rfl ?_; (first | exact fun _ _ _ => trivial | (intro t ht w; cases ht; simp [upE])); try simp only [Act.put, List.setIfInBounds_toArray, List.set_cons_zero, List.set_cons_succ])
              (iterate 2 (refine' head_val ?_ ?_ ?_ ?_; rotate_left; (· rfl); (· first | exact fun _ _ _ => trivial | (intro t ht w; cases ht; simp [upE])); (· intro w' hw' _; go_simp; with_reducible rfl); simp only [Act.put, List.setIfInBounds_toArray, List.set_cons_zero, List.set_cons_succ]))
              (refine' head_load1 rfl ?_ rfl rfl P.out rfl Tryz.underlying3 rfl ?_; (first | exact fun _ _ _ => trivial | (intro t ht w; cases ht; simp [upE])); try simp only [Act.put, List.setIfInBounds_toArray, List.set_cons_zero, List.set_cons_succ])
              (iterate 1 (refine' head_val ?_ ?_ ?_ ?_; rotate_left; (· rfl); (· first | exact fun _ _ _ => trivial | (intro t ht w; cases ht; simp [upE])); (· intro w' hw' _; go_simp; with_reducible rfl); simp only [Act.put, List.setIfInBounds_toArray, List.set_cons_zero, List.set_cons_succ]))
              (iterate 2 (refine' head_val ?_ ?_ ?_ ?_; rotate_left; (· rfl); (· first | exact fun _ _ _ => trivial | (intro t ht w; cases ht; simp [upE])); (· intro w' hw' _; go_simp; with_reducible rfl); simp only [Act.put, List.setIfInBounds_toArray, List.set_cons_zero, List.set_cons_succ]))
              (iterate 1 (refine' head_val ?_ ?_ ?_ ?_; rotate_left; (· rfl); (· first | exact fun _ _ _ => trivial | (intro t ht w; cases ht; simp [upE])); (· intro w' hw' _; go_simp; with_reducible rfl); simp only [Act.put, List.setIfInBounds_toArray, List.set_cons_zero, List.set_cons_succ]))
              (refine' head_load1 rfl ?_ rfl rfl X.out rfl Tryz.underlying56 rfl ?_; (first | exact fun _ _ _ => trivial | (intro t ht w; cases ht; simp [upE])); try simp only [Act.put, List.setIfInBounds_toArray, List.set_cons_zero, List.set_cons_succ])
              (iterate 2 (refine' head_val ?_ ?_ ?_ ?_; rotate_left; (· rfl); (· first | exact fun _ _ _ => trivial | (intro t ht w; cases ht; simp [upE])); (· intro w' hw' _; go_simp; with_reducible rfl); simp only [Act.put, List.setIfInBounds_toArray, List.set_cons_zero, List.set_cons_succ]))
              (refine' head_load1 rfl ?_ rfl rfl P.out rfl Tryz.underlying3 rfl ?_; (first | exact fun _ _ _ => trivial | (intro t ht w; cases ht; simp [upE])); try simp only [Act.put, List.setIfInBounds_toArray, List.set_cons_zero, List.set_cons_succ])
              (iterate 1 (refine' head_val ?_ ?_ ?_ ?_; rotate_left; (· rfl); (· first | exact fun _ _ _ => trivial | (intro t ht w; cases ht; simp [upE])); (· intro w' hw' _; go_simp; with_reducible rfl); simp only [Act.put, List.setIfInBounds_toArray, List.set_cons_zero, List.set_cons_succ]))
              (iterate 2 (refine' head_val ?_ ?_ ?_ ?_; rotate_left; (· rfl); (· first | exact fun _ _ _ => trivial | (intro t ht w; cases ht; simp [upE])); (· intro w' hw' _; go_simp; with_reducible rfl); simp only [Act.put, List.setIfInBounds_toArray, List.set_cons_zero, List.set_cons_succ]))
              refine head_nil ?_
              intro w9 hb _
              replace HB := hid (Grow.trans HB.out hb)
              replace P := hid (grow_block P.out hb)
              replace X := hid (grow_block X.out hb)
              clear hb
              refine wpList_nil ?_
              go_wp2_with fail
              go_ret
              exact ⟨rfl, HB.out⟩
          · have t3 : ((m : Int) == (b : Int)) = false := by simp; omega
            have HV := hid (show fitsB b h leaf n m k = false by rw [hfb]; simp [h3])
            clear h1 h2 h3 hfb
            rw [HV.out]
            go_enter Tryz.func33, Tryz.ntmps33
            have HB := hid (grow_refl w)
            apply wp_seq_k; intro _ _; apply wp_region_lit
            refine op_boxC (cs := #[.int .i64 (b : Int), .int .i64 (h : Int)]) rfl rfl rfl rfl ?_
            intro gp w10 hgl hgu hb hr
            have PL := hid (Nat.le_trans HB.out.size hgl)
            replace HB := hid (Grow.trans HB.out hb)
            have P := hid hr; have PU := hid hgu
            clear hr hgl hgu hb
            try simp only [Act.put, List.setIfInBounds_toArray, List.set_cons_zero, List.set_cons_succ]
            refine op_boxC (cs := #[.int .i64 leaf, .slice A n c, .slice B m d, .slice C k e]) rfl rfl rfl rfl ?_
            intro gx w11 hgl hgu hb hr
            have XL := hid (Nat.le_trans HB.out.size hgl)
            replace HB := hid (Grow.trans HB.out hb)
            replace P := hid (grow_block P.out hb)
            have X := hid hr; have XU := hid hgu
            clear hr hgl hgu hb
            try simp only [Act.put, List.setIfInBounds_toArray, List.set_cons_zero, List.set_cons_succ]
            go_wp2_with fail
            (refine' wp_region_head 40 0 [_, _, _, _, _, _, _, _, _, _, _, _, _, _, _, _, _, _, _, _, _, _, _, _, _, _, _, _, _, _, _, _, _, _, _, _, _, _, _, _] rfl (by kernel_rfl) (by kernel_rfl) ?hreg28; case' hreg28 => simp only [List.take_succ_cons, List.take_zero, List.zip_cons_cons, List.zip_nil_right, List.drop_succ_cons, List.drop_zero, List.drop_nil])
            (refine' head_loadB rfl ?_ rfl rfl P.out Tryz.underlying54 rfl rfl ?_; (first | exact fun _ _ _ => trivial | (intro t ht w; cases ht; simp [upE])); try simp only [Act.put, List.setIfInBounds_toArray, List.set_cons_zero, List.set_cons_succ])
            (refine' head_call ?cw29 ?ce29 ?cr29 ?cc29 ?ch29; (case' cw29 => rfl); (case' ce29 => (first | exact fun _ _ _ => trivial | (intro t ht w; cases ht; simp [upE]))); (case' cr29 => (intro w'; go_simp; first | exact ⟨rfl, rfl⟩ | with_reducible rfl)); (case' cc29 => (intro w' hw' _; exact HKR.out w')); (case' ch29 => (try simp only [Act.put, List.setIfInBounds_toArray, List.set_cons_zero, List.set_cons_succ])))
            (iterate 1 (refine' head_val ?_ ?_ ?_ ?_; rotate_left; (· rfl); (· first | exact fun _ _ _ => trivial | (intro t ht w; cases ht; simp [upE])); (· intro w' hw' _; go_simp; with_reducible rfl); simp only [Act.put, List.setIfInBounds_toArray, List.set_cons_zero, List.set_cons_succ]))
            (iterate 1 (refine' head_val ?_ ?_ ?_ ?_; rotate_left; (· rfl); (· first | exact fun _ _ _ => trivial | (intro t ht w; cases ht; simp [upE])); (· intro w' hw' _; go_simp; with_reducible rfl); simp only [Act.put, List.setIfInBounds_toArray, List.set_cons_zero, List.set_cons_succ]))
            (refine' head_load1 rfl ?_ rfl rfl X.out rfl Tryz.underlying3 rfl ?_; (first | exact fun _ _ _ => trivial | (intro t ht w; cases ht; simp [upE])); try simp only [Act.put, List.setIfInBounds_toArray, List.set_cons_zero, List.set_cons_succ])
            (iterate 1 (refine' head_val ?_ ?_ ?_ ?_; rotate_left; (· rfl); (· first | exact fun _ _ _ => trivial | (intro t ht w; cases ht; simp [upE])); (· intro w' hw' _; go_simp; with_reducible rfl); simp only [Act.put, List.setIfInBounds_toArray, List.set_cons_zero, List.set_cons_succ]))
            (iterate 2 (refine' head_val ?_ ?_ ?_ ?_; rotate_left; (· rfl); (· first | exact fun _ _ _ => trivial | (intro t ht w; cases ht; simp [upE])); (· intro w' hw' _; go_simp; with_reducible rfl); simp only [Act.put, List.setIfInBounds_toArray, List.set_cons_zero, List.set_cons_succ]))
            (iterate 1 (refine' head_val ?_ ?_ ?_ ?_; rotate_left; (· rfl); (· first | exact fun _ _ _ => trivial | (intro t ht w; cases ht; simp [upE])); (· intro w' hw' _; go_simp; with_reducible rfl); simp only [Act.put, List.setIfInBounds_toArray, List.set_cons_zero, List.set_cons_succ]))
            (refine' head_load1 rfl ?_ rfl rfl X.out rfl Tryz.underlying3 rfl ?_; (first | exact fun _ _ _ => trivial | (intro t ht w; cases ht; simp [upE])); try simp only [Act.put, List.setIfInBounds_toArray, List.set_cons_zero, List.set_cons_succ])
            (iterate 1 (refine' head_val ?_ ?_ ?_ ?_; rotate_left; (· rfl); (· first | exact fun _ _ _ => trivial | (intro t ht w; cases ht; simp [upE])); (· intro w' hw' _; go_simp; with_reducible rfl); simp only [Act.put, List.setIfInBounds_toArray, List.set_cons_zero, List.set_cons_succ]))
            (refine' head_load1 rfl ?_ rfl rfl P.out rfl Tryz.underlying3 rfl ?_; (first | exact fun _ _ _ => trivial | (intro t ht w; cases ht; simp [upE])); try simp only [Act.put, List.setIfInBounds_toArray, List.set_cons_zero, List.set_cons_succ])
            (refine' head_call ?cw30 ?ce30 ?cr30 ?cc30 ?ch30; (case' cw30 => rfl); (case' ce30 => (first | exact fun _ _ _ => trivial | (intro t ht w; cases ht; simp [upE]))); (case' cr30 => (intro w'; go_simp; first | exact ⟨rfl, rfl⟩ | with_reducible rfl)); (case' cc30 => (intro w' hw' _; exact HLV.out w')); (case' ch30 => (try simp only [Act.put, List.setIfInBounds_toArray, List.set_cons_zero, List.set_cons_succ])))
            (iterate 1 (refine' head_val ?_ ?_ ?_ ?_; rotate_left; (· rfl); (· first | exact fun _ _ _ => trivial | (intro t ht w; cases ht; simp [upE])); (· intro w' hw' _; go_simp; with_reducible rfl); simp only [Act.put, List.setIfInBounds_toArray, List.set_cons_zero, List.set_cons_succ]))
            (iterate 2 (refine' head_val ?_ ?_ ?_ ?_; rotate_left; (· rfl); (· first | exact fun _ _ _ => trivial | (intro t ht w; cases ht; simp [upE])); (· intro w' hw' _; go_simp; with_reducible rfl); simp only [Act.put, List.setIfInBounds_toArray, List.set_cons_zero, List.set_cons_succ]))
            (iterate 1 (refine' head_val ?_ ?_ ?_ ?_; rotate_left; (· rfl); (· first | exact fun _ _ _ => trivial | (intro t ht w; cases ht; simp [upE])); (· intro w' hw' _; go_simp; with_reducible rfl); simp only [Act.put, List.setIfInBounds_toArray, List.set_cons_zero, List.set_cons_succ]))
            (refine' head_load1 rfl ?_ rfl rfl X.out rfl Tryz.underlying56 rfl ?_; (first | exact fun _ _ _ => trivial | (intro t ht w; cases ht; simp [upE])); try simp only [Act.put, List.setIfInBounds_toArray, List.set_cons_zero, List.set_cons_succ])
            (iterate 2 (refine' head_val ?_ ?_ ?_ ?_; rotate_left; (· rfl); (· first | exact fun _ _ _ => trivial | (intro t ht w; cases ht; simp [upE])); (· intro w' hw' _; go_simp; with_reducible rfl); simp only [Act.put, List.setIfInBounds_toArray, List.set_cons_zero, List.set_cons_succ]))
            (refine' head_load1 rfl ?_ rfl rfl P.out rfl Tryz.underlying3 rfl ?_; (first | exact fun _ _ _ => trivial | (intro t ht w; cases ht; simp [upE])); try simp only [Act.put, List.setIfInBounds_toArray, List.set_cons_zero, List.set_cons_succ])
            (iterate 1 (refine' head_val ?_ ?_ ?_ ?_; rotate_left; (· rfl); (· first | exact fun _ _ _ => trivial | (intro t ht w; cases ht; simp [upE])); (· intro w' hw' _; go_simp; with_reducible rfl); simp only [Act.put, List.setIfInBounds_toArray, List.set_cons_zero, List.set_cons_succ]))
            (iterate 2 (refine' head_val ?_ ?_ ?_ ?_; rotate_left; (· rfl); (· first | exact fun _ _ _ => trivial | (intro t ht w; cases ht; simp [upE])); (· intro w' hw' _; go_simp; with_reducible rfl); simp only [Act.put, List.setIfInBounds_toArray, List.set_cons_zero, List.set_cons_succ]))
            (iterate 1 (refine' head_val ?_ ?_ ?_ ?_; rotate_left; (· rfl); (· first | exact fun _ _ _ => trivial | (intro t ht w; cases ht; simp [upE])); (· intro w' hw' _; go_simp; with_reducible rfl); simp only [Act.put, List.setIfInBounds_toArray, List.set_cons_zero, List.set_cons_succ]))
            (refine' head_load1 rfl ?_ rfl rfl X.out rfl Tryz.underlying56 rfl ?_; (first | exact fun _ _ _ => trivial | (intro t ht w; cases ht; simp [upE])); try simp only [Act.put, List.setIfInBounds_toArray, List.set_cons_zero, List.set_cons_succ])
            (iterate 2 (refine' head_val ?_ ?_ ?_ ?_; rotate_left; (· rfl); (· first | exact fun _ _ _ => trivial | (intro t ht w; cases ht; simp [upE])); (· intro w' hw' _; go_simp; with_reducible rfl); simp only [Act.put, List.setIfInBounds_toArray, List.set_cons_zero, List.set_cons_succ]))
            (refine' head_load1 rfl ?_ rfl rfl P.out rfl Tryz.underlying3 rfl ?_; (first | exact fun _ _ _ => trivial | (intro t ht w; cases ht; simp [upE])); try simp only [Act.put, List.setIfInBounds_toArray, List.set_cons_zero, List.set_cons_succ])
            (iterate 1 (refine' head_val ?_ ?_ ?_ ?_; rotate_left; (· rfl); (· first | exact fun _ _ _ => trivial | (intro t ht w; cases ht; simp [upE])); (· intro w' hw' _; go_simp; with_reducible rfl); simp only [Act.put, List.setIfInBounds_toArray, List.set_cons_zero, List.set_cons_succ]))
            (iterate 2 (refine' head_val ?_ ?_ ?_ ?_; rotate_left; (· rfl); (· first | exact fun _ _ _ => trivial | (intro t ht w; cases ht; simp [upE])); (· intro w' hw' _; go_simp; with_reducible rfl); simp only [Act.put, List.setIfInBounds_toArray, List.set_cons_zero, List.set_cons_succ]))
            (iterate 6 (refine' head_skip (V := fun _ _ => True) ?_ ?_ ?_; (· rfl); (· exact fun _ _ _ => trivial); simp only [Act.put, List.setIfInBounds_toArray, List.set_cons_zero, List.set_cons_succ]))
            (iterate 2 (refine' head_val ?_ ?_ ?_ ?_; rotate_left; (· rfl); (· first | exact fun _ _ _ => trivial | (intro t ht w; cases ht; simp [upE])); (· intro w' hw' _; go_simp; with_reducible rfl); simp only [Act.put, List.setIfInBounds_toArray, List.set_cons_zero, List.set_cons_succ]))
            refine head_nil ?_
            intro w12 hb _
            replace HB := hid (Grow.trans HB.out hb)
            replace P := hid (grow_block P.out hb)
            replace X := hid (grow_block X.out hb)
            clear hb
            refine wpList_nil ?_
            go_wp2_with fail
            go_ret
            exact ⟨rfl, HB.out⟩
        · have t2 : ((n : Int) == (b : Int)) = false := by simp; omega
          have HV := hid (show fitsB b h leaf n m k = false by rw [hfb]; simp [h2])
          clear h1 h2 hfb
          rw [HV.out]
          go_enter Tryz.func33, Tryz.ntmps33
          have HB := hid (grow_refl w)
          apply wp_seq_k; intro _ _; apply wp_region_lit
          refine op_boxC (cs := #[.int .i64 (b : Int), .int .i64 (h : Int)]) rfl rfl rfl rfl ?_
          intro gp w13 hgl hgu hb hr
          have PL := hid (Nat.le_trans HB.out.size hgl)
          replace HB := hid (Grow.trans HB.out hb)
          have P := hid hr; have PU := hid hgu
          clear hr hgl hgu hb
          try simp only [Act.put, List.setIfInBounds_toArray, List.set_cons_zero, List.set_cons_succ]
          refine op_boxC (cs := #[.int .i64 leaf, .slice A n c, .slice B m d, .slice C k e]) rfl rfl rfl rfl ?_
          intro gx w14 hgl hgu hb hr
          have XL := hid (Nat.le_trans HB.out.size hgl)
          replace HB := hid (Grow.trans HB.out hb)
          replace P := hid (grow_block P.out hb)
          have X := hid hr; have XU := hid hgu
          clear hr hgl hgu hb
          try simp only [Act.put, List.setIfInBounds_toArray, List.set_cons_zero, List.set_cons_succ]
          go_wp2_with fail
          (refine' wp_region_head 40 0 [_, _, _, _, _, _, _, _, _, _, _, _, _, _, _, _, _, _, _, _, _, _, _, _, _, _, _, _, _, _, _, _, _, _, _, _, _, _, _, _] rfl (by kernel_rfl) (by kernel_rfl) ?hreg31; case' hreg31 => simp only [List.take_succ_cons, List.take_zero, List.zip_cons_cons, List.zip_nil_right, List.drop_succ_cons, List.drop_zero, List.drop_nil])
          (refine' head_loadB rfl ?_ rfl rfl P.out Tryz.underlying54 rfl rfl ?_; (first | exact fun _ _ _ => trivial | (intro t ht w; cases ht; simp [upE])); try simp only [Act.put, List.setIfInBounds_toArray, List.set_cons_zero, List.set_cons_succ])
          (refine' head_call ?cw32 ?ce32 ?cr32 ?cc32 ?ch32; (case' cw32 => rfl); (case' ce32 => (first | exact fun _ _ _ => trivial | (intro t ht w; cases ht; simp [upE]))); (case' cr32 => (intro w'; go_simp; first | exact ⟨rfl, rfl⟩ | with_reducible rfl)); (case' cc32 => (intro w' hw' _; exact HKR.out w')); (case' ch32 => (try simp only [Act.put, List.setIfInBounds_toArray, List.set_cons_zero, List.set_cons_succ])))
          (iterate 1 (refine' head_val ?_ ?_ ?_ ?_; rotate_left; (· rfl); (· first | exact fun _ _ _ => trivial | (intro t ht w; cases ht; simp [upE])); (· intro w' hw' _; go_simp; with_reducible rfl); simp only [Act.put, List.setIfInBounds_toArray, List.set_cons_zero, List.set_cons_succ]))
          (iterate 1 (refine' head_val ?_ ?_ ?_ ?_; rotate_left; (· rfl); (· first | exact fun _ _ _ => trivial | (intro t ht w; cases ht; simp [upE])); (· intro w' hw' _; go_simp; with_reducible rfl); simp only [Act.put, List.setIfInBounds_toArray, List.set_cons_zero, List.set_cons_succ]))
          (refine' head_load1 rfl ?_ rfl rfl X.out rfl Tryz.underlying3 rfl ?_; (first | exact fun _ _ _ => trivial | (intro t ht w; cases ht; simp [upE])); try simp only [Act.put, List.setIfInBounds_toArray, List.set_cons_zero, List.set_cons_succ])
          (iterate 1 (refine' head_val ?_ ?_ ?_ ?_; rotate_left; (· rfl); (· first | exact fun _ _ _ => trivial | (intro t ht w; cases ht; simp [upE])); (· intro w' hw' _; go_simp; with_reducible rfl); simp only [Act.put, List.setIfInBounds_toArray, List.set_cons_zero, List.set_cons_succ]))
          (iterate 2 (refine' head_val ?_ ?_ ?_ ?_; rotate_left; (· rfl); (· first | exact fun _ _ _ => trivial | (intro t ht w; cases ht; simp [upE])); (· intro w' hw' _; go_simp; with_reducible rfl); simp only [Act.put, List.setIfInBounds_toArray, List.set_cons_zero, List.set_cons_succ]))
          (iterate 1 (refine' head_val ?_ ?_ ?_ ?_; rotate_left; (· rfl); (· first | exact fun _ _ _ => trivial | (intro t ht w; cases ht; simp [upE])); (· intro w' hw' _; go_simp; with_reducible rfl); simp only [Act.put, List.setIfInBounds_toArray, List.set_cons_zero, List.set_cons_succ]))
          (refine' head_load1 rfl ?_ rfl rfl X.out rfl Tryz.underlying3 rfl ?_; (first | exact fun _ _ _ => trivial | (intro t ht w; cases ht; simp [upE])); try simp only [Act.put, List.setIfInBounds_toArray, List.set_cons_zero, List.set_cons_succ])
          (iterate 1 (refine' head_val ?_ ?_ ?_ ?_; rotate_left; (· rfl); (· first | exact fun _ _ _ => trivial | (intro t ht w; cases ht; simp [upE])); (· intro w' hw' _; go_simp; with_reducible rfl); simp only [Act.put, List.setIfInBounds_toArray, List.set_cons_zero, List.set_cons_succ]))
          (refine' head_load1 rfl ?_ rfl rfl P.out rfl Tryz.underlying3 rfl ?_; (first | exact fun _ _ _ => trivial | (intro t ht w; cases ht; simp [upE])); try simp only [Act.put, List.setIfInBounds_toArray, List.set_cons_zero, List.set_cons_succ])
          (refine' head_call ?cw33 ?ce33 ?cr33 ?cc33 ?ch33; (case' cw33 => rfl); (case' ce33 => (first | exact fun _ _ _ => trivial | (intro t ht w; cases ht; simp [upE]))); (case' cr33 => (intro w'; go_simp; first | exact ⟨rfl, rfl⟩ | with_reducible rfl)); (case' cc33 => (intro w' hw' _; exact HLV.out w')); (case' ch33 => (try simp only [Act.put, List.setIfInBounds_toArray, List.set_cons_zero, List.set_cons_succ])))
          (iterate 1 (refine' head_val ?_ ?_ ?_ ?_; rotate_left; (· rfl); (· first | exact fun _ _ _ => trivial | (intro t ht w; cases ht; simp [upE])); (· intro w' hw' _; go_simp; with_reducible rfl); simp only [Act.put, List.setIfInBounds_toArray, List.set_cons_zero, List.set_cons_succ]))
          (iterate 2 (refine' head_val ?_ ?_ ?_ ?_; rotate_left; (· rfl); (· first | exact fun _ _ _ => trivial | (intro t ht w; cases ht; simp [upE])); (· intro w' hw' _; go_simp; with_reducible rfl); simp only [Act.put, List.setIfInBounds_toArray, List.set_cons_zero, List.set_cons_succ]))
          (iterate 1 (refine' head_val ?_ ?_ ?_ ?_; rotate_left; (· rfl); (· first | exact fun _ _ _ => trivial | (intro t ht w; cases ht; simp [upE])); (· intro w' hw' _; go_simp; with_reducible rfl); simp only [Act.put, List.setIfInBounds_toArray, List.set_cons_zero, List.set_cons_succ]))
          (refine' head_load1 rfl ?_ rfl rfl X.out rfl Tryz.underlying56 rfl ?_; (first | exact fun _ _ _ => trivial | (intro t ht w; cases ht; simp [upE])); try simp only [Act.put, List.setIfInBounds_toArray, List.set_cons_zero, List.set_cons_succ])
          (iterate 2 (refine' head_val ?_ ?_ ?_ ?_; rotate_left; (· rfl); (· first | exact fun _ _ _ => trivial | (intro t ht w; cases ht; simp [upE])); (· intro w' hw' _; go_simp; with_reducible rfl); simp only [Act.put, List.setIfInBounds_toArray, List.set_cons_zero, List.set_cons_succ]))
          (refine' head_load1 rfl ?_ rfl rfl P.out rfl Tryz.underlying3 rfl ?_; (first | exact fun _ _ _ => trivial | (intro t ht w; cases ht; simp [upE])); try simp only [Act.put, List.setIfInBounds_toArray, List.set_cons_zero, List.set_cons_succ])
          (iterate 1 (refine' head_val ?_ ?_ ?_ ?_; rotate_left; (· rfl); (· first | exact fun _ _ _ => trivial | (intro t ht w; cases ht; simp [upE])); (· intro w' hw' _; go_simp; with_reducible rfl); simp only [Act.put, List.setIfInBounds_toArray, List.set_cons_zero, List.set_cons_succ]))
          (iterate 2 (refine' head_val ?_ ?_ ?_ ?_; rotate_left; (· rfl); (· first | exact fun _ _ _ => trivial | (intro t ht w; cases ht; simp [upE])); (· intro w' hw' _; go_simp; with_reducible rfl); simp only [Act.put, List.setIfInBounds_toArray, List.set_cons_zero, List.set_cons_succ]))
          (iterate 6 (refine' head_skip (V := fun _ _ => True) ?_ ?_ ?_; (· rfl); (· exact fun _ _ _ => trivial); simp only [Act.put, List.setIfInBounds_toArray, List.set_cons_zero, List.set_cons_succ]))
          (iterate 2 (refine' head_val ?_ ?_ ?_ ?_; rotate_left; (· rfl); (· first | exact fun _ _ _ => trivial | (intro t ht w; cases ht; simp [upE])); (· intro w' hw' _; go_simp; with_reducible rfl); simp only [Act.put, List.setIfInBounds_toArray, List.set_cons_zero, List.set_cons_succ]))
          (iterate 6 (refine' head_skip (V := fun _ _ => True) ?_ ?_ ?_; (· rfl); (· exact fun _ _ _ => trivial); simp only [Act.put, List.setIfInBounds_toArray, List.set_cons_zero, List.set_cons_succ]))
          (iterate 2 (refine' head_val ?_ ?_ ?_ ?_; rotate_left; (· rfl); (· first | exact fun _ _ _ => trivial | (intro t ht w; cases ht; simp [upE])); (· intro w' hw' _; go_simp; with_reducible rfl); simp only [Act.put, List.setIfInBounds_toArray, List.set_cons_zero, List.set_cons_succ]))
          refine head_nil ?_
          intro w15 hb _
          replace HB := hid (Grow.trans HB.out hb)
          replace P := hid (grow_block P.out hb)
          replace X := hid (grow_block X.out hb)
          clear hb
          refine wpList_nil ?_
          go_wp2_with fail
          go_ret
          exact ⟨rfl, HB.out⟩
      · have t1 : decide (leaf < (N : Int)) = false := by simpa using h1
        have HV := hid (show fitsB b h leaf n m k = false by rw [hfb]; simp [h1])
        clear h1 hfb
        rw [HV.out]
        go_enter Tryz.func33, Tryz.ntmps33
        have HB := hid (grow_refl w)
        apply wp_seq_k; intro _ _; apply wp_region_lit
        refine op_boxC (cs := #[.int .i64 (b : Int), .int .i64 (h : Int)]) rfl rfl rfl rfl ?_
        intro gp w16 hgl hgu hb hr
        have PL := hid (Nat.le_trans HB.out.size hgl)
        replace HB := hid (Grow.trans HB.out hb)
        have P := hid hr; have PU := hid hgu
        clear hr hgl hgu hb
        try simp only [Act.put, List.setIfInBounds_toArray, List.set_cons_zero, List.set_cons_succ]
        refine op_boxC (cs := #[.int .i64 leaf, .slice A n c, .slice B m d, .slice C k e]) rfl rfl rfl rfl ?_
        intro gx w17 hgl hgu hb hr
        have XL := hid (Nat.le_trans HB.out.size hgl)
        replace HB := hid (Grow.trans HB.out hb)
        replace P := hid (grow_block P.out hb)
        have X := hid hr; have XU := hid hgu
        clear hr hgl hgu hb
        try simp only [Act.put, List.setIfInBounds_toArray, List.set_cons_zero, List.set_cons_succ]
        go_wp2_with fail
        (refine' wp_region_head 40 0 [_, _, _, _, _, _, _, _, _, _, _, _, _, _, _, _, _, _, _, _, _, _, _, _, _, _, _, _, _, _, _, _, _, _, _, _, _, _, _, _] rfl (by kernel_rfl) (by kernel_rfl) ?hreg34; case' hreg34 => simp only [List.take_succ_cons, List.take_zero, List.zip_cons_cons, List.zip_nil_right, List.drop_succ_cons, List.drop_zero, List.drop_nil])
        (refine' head_loadB rfl ?_ rfl rfl P.out Tryz.underlying54 rfl rfl ?_; (first | exact fun _ _ _ => trivial | (intro t ht w; cases ht; simp [upE])); try simp only [Act.put, List.setIfInBounds_toArray, List.set_cons_zero, List.set_cons_succ])
        (refine' head_call ?cw35 ?ce35 ?cr35 ?cc35 ?ch35; (case' cw35 => rfl); (case' ce35 => (first | exact fun _ _ _ => trivial | (intro t ht w; cases ht; simp [upE]))); (case' cr35 => (intro w'; go_simp; first | exact ⟨rfl, rfl⟩ | with_reducible rfl)); (case' cc35 => (intro w' hw' _; exact HKR.out w')); (case' ch35 => (try simp only [Act.put, List.setIfInBounds_toArray, List.set_cons_zero, List.set_cons_succ])))
        (iterate 1 (refine' head_val ?_ ?_ ?_ ?_; rotate_left; (· rfl); (· first | exact fun _ _ _ => trivial | (intro t ht w; cases ht; simp [upE])); (· intro w' hw' _; go_simp; with_reducible rfl); simp only [Act.put, List.setIfInBounds_toArray, List.set_cons_zero, List.set_cons_succ]))
        (iterate 1 (refine' head_val ?_ ?_ ?_ ?_; rotate_left; (· rfl); (· first | exact fun _ _ _ => trivial | (intro t ht w; cases ht; simp [upE])); (· intro w' hw' _; go_simp; with_reducible rfl); simp only [Act.put, List.setIfInBounds_toArray, List.set_cons_zero, List.set_cons_succ]))
        (refine' head_load1 rfl ?_ rfl rfl X.out rfl Tryz.underlying3 rfl ?_; (first | exact fun _ _ _ => trivial | (intro t ht w; cases ht; simp [upE])); try simp only [Act.put, List.setIfInBounds_toArray, List.set_cons_zero, List.set_cons_succ])
        (iterate 1 (refine' head_val ?_ ?_ ?_ ?_; rotate_left; (· rfl); (· first | exact fun _ _ _ => trivial | (intro t ht w; cases ht; simp [upE])); (· intro w' hw' _; go_simp; with_reducible rfl); simp only [Act.put, List.setIfInBounds_toArray, List.set_cons_zero, List.set_cons_succ]))
        (iterate 2 (refine' head_val ?_ ?_ ?_ ?_; rotate_left; (· rfl); (· first | exact fun _ _ _ => trivial | (intro t ht w; cases ht; simp [upE])); (· intro w' hw' _; go_simp; with_reducible rfl); simp only [Act.put, List.setIfInBounds_toArray, List.set_cons_zero, List.set_cons_succ]))
        (iterate 1 (refine' head_val ?_ ?_ ?_ ?_; rotate_left; (· rfl); (· first | exact fun _ _ _ => trivial | (intro t ht w; cases ht; simp [upE])); (· intro w' hw' _; go_simp; with_reducible rfl); simp only [Act.put, List.setIfInBounds_toArray, List.set_cons_zero, List.set_cons_succ]))
        (refine' head_load1 rfl ?_ rfl rfl X.out rfl Tryz.underlying3 rfl ?_; (first | exact fun _ _ _ => trivial | (intro t ht w; cases ht; simp [upE])); try simp only [Act.put, List.setIfInBounds_toArray, List.set_cons_zero, List.set_cons_succ])
        (iterate 1 (refine' head_val ?_ ?_ ?_ ?_; rotate_left; (· rfl); (· first | exact fun _ _ _ => trivial | (intro t ht w; cases ht; simp [upE])); (· intro w' hw' _; go_simp; with_reducible rfl); simp only [Act.put, List.setIfInBounds_toArray, List.set_cons_zero, List.set_cons_succ]))
        (refine' head_load1 rfl ?_ rfl rfl P.out rfl Tryz.underlying3 rfl ?_; (first | exact fun _ _ _ => trivial | (intro t ht w; cases ht; simp [upE])); try simp only [Act.put, List.setIfInBounds_toArray, List.set_cons_zero, List.set_cons_succ])
        (refine' head_call ?cw36 ?ce36 ?cr36 ?cc36 ?ch36; (case' cw36 => rfl); (case' ce36 => (first | exact fun _ _ _ => trivial | (intro t ht w; cases ht; simp [upE]))); (case' cr36 => (intro w'; go_simp; first | exact ⟨rfl, rfl⟩ | with_reducible rfl)); (case' cc36 => (intro w' hw' _; exact HLV.out w')); (case' ch36 => (try simp only [Act.put, List.setIfInBounds_toArray, List.set_cons_zero, List.set_cons_succ])))
        (iterate 1 (refine' head_val ?_ ?_ ?_ ?_; rotate_left; (· rfl); (· first | exact fun _ _ _ => trivial | (intro t ht w; cases ht; simp [upE])); (· intro w' hw' _; go_simp; with_reducible rfl); simp only [Act.put, List.setIfInBounds_toArray, List.set_cons_zero, List.set_cons_succ]))
        (iterate 2 (refine' head_val ?_ ?_ ?_ ?_; rotate_left; (· rfl); (· first | exact fun _ _ _ => trivial | (intro t ht w; cases ht; simp [upE])); (· intro w' hw' _; go_simp; with_reducible rfl); simp only [Act.put, List.setIfInBounds_toArray, List.set_cons_zero, List.set_cons_succ]))
        (iterate 6 (refine' head_skip (V := fun _ _ => True) ?_ ?_ ?_; (· rfl); (· exact fun _ _ _ => trivial); simp only [Act.put, List.setIfInBounds_toArray, List.set_cons_zero, List.set_cons_succ]))
        (iterate 2 (refine' head_val ?_ ?_ ?_ ?_; rotate_left; (· rfl); (· first | exact fun _ _ _ => trivial | (intro t ht w; cases ht; simp [upE])); (· intro w' hw' _; go_simp; with_reducible rfl); simp only [Act.put, List.setIfInBounds_toArray, List.set_cons_zero, List.set_cons_succ]))
        (iterate 6 (refine' head_skip (V := fun _ _ => True) ?_ ?_ ?_; (· rfl); (· exact fun _ _ _ => trivial); simp only [Act.put, List.setIfInBounds_toArray, List.set_cons_zero, List.set_cons_succ]))
        (iterate 2 (refine' head_val ?_ ?_ ?_ ?_; rotate_left; (· rfl); (· first | exact fun _ _ _ => trivial | (intro t ht w; cases ht; simp [upE])); (· intro w' hw' _; go_simp; with_reducible rfl); simp only [Act.put, List.setIfInBounds_toArray, List.set_cons_zero, List.set_cons_succ]))
        (iterate 6 (refine' head_skip (V := fun _ _ => True) ?_ ?_ ?_; (· rfl); (· exact fun _ _ _ => trivial); simp only [Act.put, List.setIfInBounds_toArray, List.set_cons_zero, List.set_cons_succ]))
        (iterate 2 (refine' head_val ?_ ?_ ?_ ?_; rotate_left; (· rfl); (· first | exact fun _ _ _ => trivial | (intro t ht w; cases ht; simp [upE])); (· intro w' hw' _; go_simp; with_reducible rfl); simp only [Act.put, List.setIfInBounds_toArray, List.set_cons_zero, List.set_cons_succ]))
        refine head_nil ?_
        intro w18 hb _
        replace HB := hid (Grow.trans HB.out hb)
        replace P := hid (grow_block P.out hb)
        replace X := hid (grow_block X.out hb)
        clear hb
        refine wpList_nil ?_
        go_wp2_with fail
        go_ret
        exact ⟨rfl, HB.out⟩
    · have t0 : decide (0 ≤ leaf) = false := by simpa using h0
      have HV := hid (show fitsB b h leaf n m k = false by rw [hfb]; simp [h0])
      clear hfb
      rw [HV.out]
      go_enter Tryz.func33, Tryz.ntmps33
      have HB := hid (grow_refl w)
      apply wp_seq_k; intro _ _; apply wp_region_lit
      refine op_boxC (cs := #[.int .i64 (b : Int), .int .i64 (h : Int)]) rfl rfl rfl rfl ?_
      intro gp w19 hgl hgu hb hr
      have PL := hid (Nat.le_trans HB.out.size hgl)
      replace HB := hid (Grow.trans HB.out hb)
      have P := hid hr; have PU := hid hgu
      clear hr hgl hgu hb
      try simp only [Act.put, List.setIfInBounds_toArray, List.set_cons_zero, List.set_cons_succ]
      refine op_boxC (cs := #[.int .i64 leaf, .slice A n c, .slice B m d, .slice C k e]) rfl rfl rfl rfl ?_
      intro gx w20 hgl hgu hb hr
      have XL := hid (Nat.le_trans HB.out.size hgl)
      replace HB := hid (Grow.trans HB.out hb)
      replace P := hid (grow_block P.out hb)
      have X := hid hr; have XU := hid hgu
      clear hr hgl hgu hb
      try simp only [Act.put, List.setIfInBounds_toArray, List.set_cons_zero, List.set_cons_succ]
      go_wp2_with fail
      (refine' wp_region_head 40 0 [_, _, _, _, _, _, _, _, _, _, _, _, _, _, _, _, _, _, _, _, _, _, _, _, _, _, _, _, _, _, _, _, _, _, _, _, _, _, _, _] rfl (by kernel_rfl) (by kernel_rfl) ?hreg37; case' hreg37 => simp only [List.take_succ_cons, List.take_zero, List.zip_cons_cons, List.zip_nil_right, List.drop_succ_cons, List.drop_zero, List.drop_nil])
      (refine' head_loadB rfl ?_ rfl rfl P.out Tryz.underlying54 rfl rfl ?_; (first | exact fun _ _ _ => trivial | (intro t ht w; cases ht; simp [upE])); try simp only [Act.put, List.setIfInBounds_toArray, List.set_cons_zero, List.set_cons_succ])
      (refine' head_call ?cw38 ?ce38 ?cr38 ?cc38 ?ch38; (case' cw38 => rfl); (case' ce38 => (first | exact fun _ _ _ => trivial | (intro t ht w; cases ht; simp [upE]))); (case' cr38 => (intro w'; go_simp; first | exact ⟨rfl, rfl⟩ | with_reducible rfl)); (case' cc38 => (intro w' hw' _; exact HKR.out w')); (case' ch38 => (try simp only [Act.put, List.setIfInBounds_toArray, List.set_cons_zero, List.set_cons_succ])))
      (iterate 1 (refine' head_val ?_ ?_ ?_ ?_; rotate_left; (· rfl); (· first | exact fun _ _ _ => trivial | (intro t ht w; cases ht; simp [upE])); (· intro w' hw' _; go_simp; with_reducible rfl); simp only [Act.put, List.setIfInBounds_toArray, List.set_cons_zero, List.set_cons_succ]))
      (iterate 1 (refine' head_val ?_ ?_ ?_ ?_; rotate_left; (· rfl); (· first | exact fun _ _ _ => trivial | (intro t ht w; cases ht; simp [upE])); (· intro w' hw' _; go_simp; with_reducible rfl); simp only [Act.put, List.setIfInBounds_toArray, List.set_cons_zero, List.set_cons_succ]))
      (refine' head_load1 rfl ?_ rfl rfl X.out rfl Tryz.underlying3 rfl ?_; (first | exact fun _ _ _ => trivial | (intro t ht w; cases ht; simp [upE])); try simp only [Act.put, List.setIfInBounds_toArray, List.set_cons_zero, List.set_cons_succ])
      (iterate 1 (refine' head_val ?_ ?_ ?_ ?_; rotate_left; (· rfl); (· first | exact fun _ _ _ => trivial | (intro t ht w; cases ht; simp [upE])); (· intro w' hw' _; go_simp; with_reducible rfl); simp only [Act.put, List.setIfInBounds_toArray, List.set_cons_zero, List.set_cons_succ]))
      (iterate 2 (refine' head_val ?_ ?_ ?_ ?_; rotate_left; (· rfl); (· first | exact fun _ _ _ => trivial | (intro t ht w; cases ht; simp [upE])); (· intro w' hw' _; go_simp; with_reducible rfl); simp only [Act.put, List.setIfInBounds_toArray, List.set_cons_zero, List.set_cons_succ]))
      (iterate 6 (refine' head_skip (V := fun _ _ => True) ?_ ?_ ?_; (· rfl); (· exact fun _ _ _ => trivial); simp only [Act.put, List.setIfInBounds_toArray, List.set_cons_zero, List.set_cons_succ]))
      (iterate 2 (refine' head_val ?_ ?_ ?_ ?_; rotate_left; (· rfl); (· first | exact fun _ _ _ => trivial | (intro t ht w; cases ht; simp [upE])); (· intro w' hw' _; go_simp; with_reducible rfl); simp only [Act.put, List.setIfInBounds_toArray, List.set_cons_zero, List.set_cons_succ]))
      (iterate 6 (refine' head_skip (V := fun _ _ => True) ?_ ?_ ?_; (· rfl); (· exact fun _ _ _ => trivial); simp only [Act.put, List.setIfInBounds_toArray, List.set_cons_zero, List.set_cons_succ]))
      (iterate 2 (refine' head_val ?_ ?_ ?_ ?_; rotate_left; (· rfl); (· first | exact fun _ _ _ => trivial | (intro t ht w; cases ht; simp [upE])); (· intro w' hw' _; go_simp; with_reducible rfl); simp only [Act.put, List.setIfInBounds_toArray, List.set_cons_zero, List.set_cons_succ]))
      (iterate 6 (refine' head_skip (V := fun _ _ => True) ?_ ?_ ?_; (· rfl); (· exact fun _ _ _ => trivial); simp only [Act.put, List.setIfInBounds_toArray, List.set_cons_zero, List.set_cons_succ]))
      (iterate 2 (refine' head_val ?_ ?_ ?_ ?_; rotate_left; (· rfl); (· first | exact fun _ _ _ => trivial | (intro t ht w; cases ht; simp [upE])); (· intro w' hw' _; go_simp; with_reducible rfl); simp only [Act.put, List.setIfInBounds_toArray, List.set_cons_zero, List.set_cons_succ]))
      (iterate 6 (refine' head_skip (V := fun _ _ => True) ?_ ?_ ?_; (· rfl); (· exact fun _ _ _ => trivial); simp only [Act.put, List.setIfInBounds_toArray, List.set_cons_zero, List.set_cons_succ]))
      (iterate 2 (refine' head_val ?_ ?_ ?_ ?_; rotate_left; (· rfl); (· first | exact fun _ _ _ => trivial | (intro t ht w; cases ht; simp [upE])); (· intro w' hw' _; go_simp; with_reducible rfl); simp only [Act.put, List.setIfInBounds_toArray, List.set_cons_zero, List.set_cons_succ]))
      refine head_nil ?_
      intro w21 hb _
      replace HB := hid (Grow.trans HB.out hb)
      replace P := hid (grow_block P.out hb)
      replace X := hid (grow_block X.out hb)
      clear hb
      refine wpList_nil ?_
      go_wp2_with fail
      go_ret
      exact ⟨rfl, HB.out⟩
end Go.Proofs.YtabkaflccaklhaaGreat
