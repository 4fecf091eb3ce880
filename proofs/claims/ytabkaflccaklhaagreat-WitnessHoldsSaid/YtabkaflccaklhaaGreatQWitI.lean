/- witness.Holds and the law's holds: contracts (printed by gen_with2.py). -/
import Derived.Test.YtabkaflccaklhaaGreatQWitH
set_option linter.unusedSimpArgs false
set_option linter.unusedVariables false
namespace Go.Proofs.YtabkaflccaklhaaGreat
open Go.RowKit
open Go.Qk hiding rotr b4
set_option maxHeartbeats 4000000
set_option maxRecDepth 100000
theorem wHolds (seed : ByteArray) (hsd : seed.size ≤ 1000000) (b h : Nat) (hkt : ktB (b : Int) (h : Int) = true) (A0 : Option Addr) (n0 c0 : Nat) (fs : List WRow) (sum : IdK) (hs : sum.length = 32) (xl : Int) (A B C : Option Addr) (n m q c d e : Nat) (k : Int) (sa sc : List UInt8) (hsa : sa.length ≤ 140737488355328) (hsc : sc.length ≤ 140737488355328) (leaf bit side : Int) (hlf : leaf ≤ 9223372036854775807) (v : IdK) (hv : v.length = 32) (w : World) (h0 : WrRow w A0 fs) (hn0 : fs.length = n0) (f32 : ∀ x ∈ fs, x.2.length = 32) :
    Calls Tryz.prog 37 #[.agg #[.int .i64 (b : Int), .int .i64 (h : Int)], .string seed, .slice A0 n0 c0, idV sum, .agg #[.int .i64 xl, .slice A n c, .slice B m d, .slice C q e], .agg (witC k sa sc leaf bit side v).toArray] w fun r w' => r = .returned (.bool (holdsB b seed fs sum xl k sa sc leaf bit side v)) ∧ Below w.heap.size w w' := by
  have hb256 : b ≤ 256 := by have := kt_bounds hkt; omega
  obtain ⟨rb, hhb⟩ : ∃ rb, rb = holdsB b seed fs sum xl k sa sc leaf bit side v := ⟨_, rfl⟩
  have E1 : k = 1 → rb = honestW b fs sum xl := fun h1 => by rw [hhb]; unfold holdsB; rw [if_pos h1]
  have E4 : k ≠ 1 → k ≠ 2 → k ≠ 3 → rb = false := fun h1 h2 h3 => by rw [hhb]; unfold holdsB; rw [if_neg h1, if_neg h2, if_neg h3]
  have E2 : k = 2 → (((bs sa).toList == (bs sc).toList) = true ∧ ((bs sa).toList != (bs sc).toList) = false ∧ rb = false) ∨ (((bs sa).toList == (bs sc).toList) = false ∧ rb = decide (shaOf sa = shaOf sc)) := fun h2 => by
    have e2 : rb = (!decide (sa = sc) && decide (shaOf sa = shaOf sc)) := by rw [hhb]; unfold holdsB; rw [if_neg (by omega), if_pos h2]
    by_cases he : sa = sc
    · rw [decide_eq_true he] at e2
      subst he
      exact .inl ⟨str_eqT _, str_neT _, by rw [e2]; rfl⟩
    · rw [decide_eq_false he, Bool.not_false, Bool.true_and] at e2
      exact .inr ⟨toList_beq_ne (fun e => he (bs_inj e)), e2⟩
  have E3 : k = 3 → ((leaf == xl) = false ∧ rb = false) ∨ ((leaf == xl) = true ∧ decide (0 ≤ bit) = false ∧ rb = false) ∨ ((leaf == xl) = true ∧ decide (0 ≤ bit) = true ∧ decide (bit < (b : Int)) = false ∧ rb = false) ∨ ((leaf == xl) = true ∧ decide (0 ≤ bit) = true ∧ decide (bit < (b : Int)) = true ∧ (side == 0) = false ∧ (side == 1) = false ∧ rb = false) ∨ ((leaf == xl) = true ∧ decide (0 ≤ bit) = true ∧ decide (bit < (b : Int)) = true ∧ (side == 0) = true ∧ (∀ w, WrRow w A0 fs → Calls Tryz.prog 66 #[.slice A0 n0 c0, .int .i64 leaf, .int .i64 bit, .int .i64 side] w fun e w' => e = .returned (.bool (!true)) ∧ Below w.heap.size w w') ∧ rb = false) ∨ ((leaf == xl) = true ∧ decide (0 ≤ bit) = true ∧ decide (bit < (b : Int)) = true ∧ (side == 0) = true ∧ (∀ w, WrRow w A0 fs → Calls Tryz.prog 66 #[.slice A0 n0 c0, .int .i64 leaf, .int .i64 bit, .int .i64 side] w fun e w' => e = .returned (.bool (!false)) ∧ Below w.heap.size w w') ∧ rb = decide (publicOf v = publicOf (secretOf seed leaf bit side))) ∨ ((leaf == xl) = true ∧ decide (0 ≤ bit) = true ∧ decide (bit < (b : Int)) = true ∧ (side == 0) = false ∧ (side == 1) = true ∧ (∀ w, WrRow w A0 fs → Calls Tryz.prog 66 #[.slice A0 n0 c0, .int .i64 leaf, .int .i64 bit, .int .i64 side] w fun e w' => e = .returned (.bool (!true)) ∧ Below w.heap.size w w') ∧ rb = false) ∨ ((leaf == xl) = true ∧ decide (0 ≤ bit) = true ∧ decide (bit < (b : Int)) = true ∧ (side == 0) = false ∧ (side == 1) = true ∧ (∀ w, WrRow w A0 fs → Calls Tryz.prog 66 #[.slice A0 n0 c0, .int .i64 leaf, .int .i64 bit, .int .i64 side] w fun e w' => e = .returned (.bool (!false)) ∧ Below w.heap.size w w') ∧ rb = decide (publicOf v = publicOf (secretOf seed leaf bit side))) := fun h3 => by
    have e3 : rb = (decide (leaf = xl) && (decide (0 ≤ bit) && (decide (bit < (b : Int)) && ((decide (0 ≤ side) && decide (side ≤ 1)) && (!shownW fs leaf bit.toNat side && decide (publicOf v = publicOf (secretOf seed leaf bit side))))))) := by rw [hhb]; unfold holdsB; rw [if_neg (by omega), if_neg (by omega), if_pos h3]
    clear E1 E2 E4 hhb
    by_cases hl : leaf = xl
    · have q1 : (leaf == xl) = true := by simpa using hl
      rw [decide_eq_true hl, Bool.true_and] at e3
      by_cases hb0 : 0 ≤ bit
      · have q2 : decide (0 ≤ bit) = true := decide_eq_true hb0
        rw [q2, Bool.true_and] at e3
        by_cases hb1 : bit < (b : Int)
        · have q3 : decide (bit < (b : Int)) = true := decide_eq_true hb1
          rw [q3, Bool.true_and] at e3
          by_cases hs0 : 0 ≤ side
          · by_cases hs1 : side ≤ 1
            · rw [decide_eq_true hs0, decide_eq_true hs1, Bool.true_and, Bool.true_and] at e3
              obtain ⟨bn, rfl⟩ : ∃ bn : Nat, bit = (bn : Int) := ⟨bit.toNat, by omega⟩
              rw [Int.toNat_natCast] at e3
              have hch := fun w (hq : WrRow w A0 fs) => wHidden A0 n0 c0 fs leaf side bn (by omega) w hq hn0 f32
              by_cases hz : side = 0
              · have u1 : (side == 0) = true := by simpa using hz
                cases hsh : shownW fs leaf bn side with
                | true =>
                  rw [hsh] at hch e3
                  exact .inr (.inr (.inr (.inr (.inl (⟨q1, q2, q3, u1, hch, by rw [e3]; rfl⟩)))))
                | false =>
                  rw [hsh] at hch e3
                  exact .inr (.inr (.inr (.inr (.inr (.inl (⟨q1, q2, q3, u1, hch, by rw [e3, Bool.not_false, Bool.true_and]⟩))))))
              · have u1 : (side == 0) = false := by simpa using hz
                have u2 : (side == 1) = true := by simp; omega
                cases hsh : shownW fs leaf bn side with
                | true =>
                  rw [hsh] at hch e3
                  exact .inr (.inr (.inr (.inr (.inr (.inr (.inl (⟨q1, q2, q3, u1, u2, hch, by rw [e3]; rfl⟩)))))))
                | false =>
                  rw [hsh] at hch e3
                  exact .inr (.inr (.inr (.inr (.inr (.inr (.inr (⟨q1, q2, q3, u1, u2, hch, by rw [e3, Bool.not_false, Bool.true_and]⟩)))))))
            · rw [decide_eq_false hs1, Bool.and_false, Bool.false_and] at e3
              exact .inr (.inr (.inr (.inl (⟨q1, q2, q3, by simp; omega, by simp; omega, e3⟩))))
          · rw [decide_eq_false hs0, Bool.false_and, Bool.false_and] at e3
            exact .inr (.inr (.inr (.inl (⟨q1, q2, q3, by simp; omega, by simp; omega, e3⟩))))
        · rw [decide_eq_false hb1, Bool.false_and] at e3
          exact .inr (.inr (.inl (⟨q1, q2, decide_eq_false hb1, e3⟩)))
      · rw [decide_eq_false hb0, Bool.false_and] at e3
        exact .inr (.inl (⟨q1, decide_eq_false hb0, e3⟩))
    · rw [decide_eq_false hl, Bool.false_and] at e3
      exact .inl (⟨by simpa using hl, e3⟩)
  rw [← hhb]
  clear hhb
  have H0 := hid h0
  have HS := hid hs
  have HV := hid hv
  have HKT := hid hkt
  have HHO := hid (fun w q => wHonest b h hb256 A0 n0 c0 fs sum hs xl w q hn0 f32)
  have HU1 := hid (fun w => shaSum sa hsa w)
  have HU2 := hid (fun w => shaSum sc hsc w)
  have HPV := hid (fun w => lamPublic v hv w)
  have HSC := hid (fun w => lamSecret seed leaf bit side hsd hlf w)
  have HPS := hid (fun w => lamPublic (secretOf seed leaf bit side) (secretOf_length _ _ _ _) w)
  have hq1 := fun w => id_eql_dec (shaOf sa) (shaOf sc) (shaOf_length _) (shaOf_length _) w
  have hq2 := id_guard .eql (shaOf sa) (shaOf sc)
  have hq3 := fun w => id_eql_dec (publicOf v) (publicOf (secretOf seed leaf bit side)) (publicOf_length _) (publicOf_length _) w
  have hq4 := id_guard .eql (publicOf v) (publicOf (secretOf seed leaf bit side))
  have HE3 := hid E3
  have HE2 := hid E2
  clear E3 E2 h0 hs hv hkt hn0 f32
  generalize publicOf v = pv at *
  generalize secretOf seed leaf bit side = sec at *
  generalize publicOf sec = pc at *
  generalize shaOf sa = ya at *
  generalize shaOf sc = yc at *
  go_enter Tryz.func37, Tryz.ntmps37
  have HB := hid (grow_refl w)
  apply wp_seq_k; intro _ _; apply wp_region_lit
  refine op_boxC (cs := #[.int .i64 (b : Int), .int .i64 (h : Int)]) rfl rfl rfl rfl ?_
  intro gp w1 hgl hgu hb hr
  have PL := hid (Nat.le_trans HB.out.size hgl)
  replace HB := hid (Grow.trans HB.out hb)
  replace H0 := hid (H0.out.grow hb)
  have P := hid hr; have PU := hid hgu
  clear hr hgl hgu hb
  try simp only [Act.put, List.setIfInBounds_toArray, List.set_cons_zero, List.set_cons_succ]
  refine op_box (l := sum) rfl rfl rfl ?_
  intro gs w2 hgl hgu hb hr
  have XL := hid (Nat.le_trans HB.out.size hgl)
  replace HB := hid (Grow.trans HB.out hb)
  replace H0 := hid (H0.out.grow hb)
  replace P := hid (grow_block P.out hb)
  have X := hid hr; have XU := hid hgu
  clear hr hgl hgu hb
  try simp only [Act.put, List.setIfInBounds_toArray, List.set_cons_zero, List.set_cons_succ]
  refine op_boxC (cs := #[.int .i64 xl, .slice A n c, .slice B m d, .slice C q e]) rfl rfl rfl rfl ?_
  intro gx w3 hgl hgu hb hr
  have GL := hid (Nat.le_trans HB.out.size hgl)
  replace HB := hid (Grow.trans HB.out hb)
  replace H0 := hid (H0.out.grow hb)
  replace P := hid (grow_block P.out hb)
  replace X := hid (grow_block X.out hb)
  have G := hid hr; have GU := hid hgu
  clear hr hgl hgu hb
  try simp only [Act.put, List.setIfInBounds_toArray, List.set_cons_zero, List.set_cons_succ]
  refine op_boxC (cs := (witC k sa sc leaf bit side v).toArray) rfl rfl rfl rfl ?_
  intro gw w4 hgl hgu hb hr
  have WL := hid (Nat.le_trans HB.out.size hgl)
  replace HB := hid (Grow.trans HB.out hb)
  replace H0 := hid (H0.out.grow hb)
  replace P := hid (grow_block P.out hb)
  replace X := hid (grow_block X.out hb)
  replace G := hid (grow_block G.out hb)
  have W := hid hr; have WU := hid hgu
  clear hr hgl hgu hb
  try simp only [Act.put, List.setIfInBounds_toArray, List.set_cons_zero, List.set_cons_succ]
  go_wp2_with (first | (refine opG_load1 (i := 0) (v := .int .i64 k) rfl rfl rfl W.out rfl Tryz.underlying3 rfl ?_) | (refine opG_loadB rfl rfl rfl P.out Tryz.underlying54 rfl rfl ?_) | (refine opG_load1 rfl rfl rfl P.out rfl Tryz.underlying3 rfl ?_) | (refine opG_load1 rfl rfl rfl G.out rfl Tryz.underlying3 rfl ?_) | (refine opG_load1 rfl rfl rfl G.out rfl Tryz.underlying56 rfl ?_) | (refine op_loadId rfl rfl rfl X.out (HS.out) ?_) |  fail)
  refine (ktRight b h _).mono ?_
  rintro e w5 ⟨rfl, hb⟩
  replace HB := hid (Grow.trans HB.out hb)
  replace H0 := hid (H0.out.grow hb)
  replace P := hid (grow_block P.out hb)
  replace X := hid (grow_block X.out hb)
  replace G := hid (grow_block G.out hb)
  replace W := hid (grow_block W.out hb)
  clear hb
  rw [HKT.out]
  by_cases k1 : k = 1
  · have t1 : (k == 1) = true := by simpa using k1
    obtain rfl := E1 k1
    clear E1 E4 k1
    go_wp2_with (first | (refine opG_load1 (i := 0) (v := .int .i64 k) rfl rfl rfl W.out rfl Tryz.underlying3 rfl ?_) | (refine opG_loadB rfl rfl rfl P.out Tryz.underlying54 rfl rfl ?_) | (refine opG_load1 rfl rfl rfl P.out rfl Tryz.underlying3 rfl ?_) | (refine opG_load1 rfl rfl rfl G.out rfl Tryz.underlying3 rfl ?_) | (refine opG_load1 rfl rfl rfl G.out rfl Tryz.underlying56 rfl ?_) | (refine op_loadId rfl rfl rfl X.out (HS.out) ?_) |  fail)
    refine (HHO.out _ H0.out).mono ?_
    rintro e w6 ⟨rfl, hb⟩
    replace HB := hid (Grow.trans HB.out hb)
    replace H0 := hid (H0.out.grow hb)
    replace P := hid (grow_block P.out hb)
    replace X := hid (grow_block X.out hb)
    replace G := hid (grow_block G.out hb)
    replace W := hid (grow_block W.out hb)
    clear hb
    go_wp2_with fail
    go_ret
    exact ⟨rfl, HB.out⟩
  have t1 : (k == 1) = false := by simpa using k1
  by_cases k3 : k = 3
  · have t2 : (k == 2) = false := by rw [k3]; rfl
    have t3 : (k == 3) = true := by simpa using k3
    have E3 := HE3.out k3
    clear HE3 HE2 E1 E4 k1 k3
    have HE3 := hid E3
    clear E3
    go_wp2_with (first | (refine opG_load1 (i := 0) (v := .int .i64 k) rfl rfl rfl W.out rfl Tryz.underlying3 rfl ?_) | (refine opG_loadB rfl rfl rfl P.out Tryz.underlying54 rfl rfl ?_) | (refine opG_load1 rfl rfl rfl P.out rfl Tryz.underlying3 rfl ?_) | (refine opG_load1 rfl rfl rfl G.out rfl Tryz.underlying3 rfl ?_) | (refine opG_load1 rfl rfl rfl G.out rfl Tryz.underlying56 rfl ?_) | (refine op_loadId rfl rfl rfl X.out (HS.out) ?_) |  fail)
    rcases HE3.out with ⟨q0, rfl⟩ | ⟨q0, q1, rfl⟩ | ⟨q0, q1, q2, rfl⟩ | ⟨q0, q1, q2, q3, q4, rfl⟩ | ⟨q0, q1, q2, q3, hch, rfl⟩ | ⟨q0, q1, q2, q3, hch, rfl⟩ | ⟨q0, q1, q2, q3, q4, hch, rfl⟩ | ⟨q0, q1, q2, q3, q4, hch, rfl⟩
    · (refine' wp_region_head 53 0 [_, _, _, _, _, _, _, _, _, _, _, _, _, _, _, _, _, _, _, _, _, _, _, _, _, _, _, _, _, _, _, _, _, _, _, _, _, _, _, _, _, _, _, _, _, _, _, _, _, _, _, _, _] rfl (by kernel_rfl) (by kernel_rfl) ?hreg1; case' hreg1 => simp only [List.take_succ_cons, List.take_zero, List.zip_cons_cons, List.zip_nil_right, List.drop_succ_cons, List.drop_zero, List.drop_nil])
      repeat first
        | (refine' head_skip (V := fun _ _ => True) ?_ ?_ ?_; (· rfl); (· exact fun _ _ _ => trivial); simp only [Act.put, List.setIfInBounds_toArray, List.set_cons_zero, List.set_cons_succ])
        | (refine' head_val ?_ ?_ ?_ ?_; rotate_left; (· rfl); (· first | exact fun _ _ _ => trivial | (intro t ht w; cases ht; simp [upE])); (· intro w' hw' _; go_simp; with_reducible rfl); simp only [Act.put, List.setIfInBounds_toArray, List.set_cons_zero, List.set_cons_succ])
        | skip
          (refine' head_load1 (i := 3) (v := (.int .i64 leaf)) rfl ?_ rfl rfl W.out rfl Tryz.underlying3 rfl ?_; (first | exact fun _ _ _ => trivial | (intro t ht w; cases ht; simp [upE])); try simp only [Act.put, List.setIfInBounds_toArray, List.set_cons_zero, List.set_cons_succ])
        | skip
          (refine' head_load1 (i := 0) (v := (.int .i64 xl)) rfl ?_ rfl rfl G.out rfl Tryz.underlying3 rfl ?_; (first | exact fun _ _ _ => trivial | (intro t ht w; cases ht; simp [upE])); try simp only [Act.put, List.setIfInBounds_toArray, List.set_cons_zero, List.set_cons_succ])
      (refine head_nil ?_; intro wz hbz _; have HBZ := hid (Grow.trans HB.out hbz); refine wpList_nil ?_; go_wp2_with fail; go_ret; exact ⟨rfl, HBZ.out⟩)
    · (refine' wp_region_head 53 0 [_, _, _, _, _, _, _, _, _, _, _, _, _, _, _, _, _, _, _, _, _, _, _, _, _, _, _, _, _, _, _, _, _, _, _, _, _, _, _, _, _, _, _, _, _, _, _, _, _, _, _, _, _] rfl (by kernel_rfl) (by kernel_rfl) ?hreg2; case' hreg2 => simp only [List.take_succ_cons, List.take_zero, List.zip_cons_cons, List.zip_nil_right, List.drop_succ_cons, List.drop_zero, List.drop_nil])
      repeat first
        | (refine' head_skip (V := fun _ _ => True) ?_ ?_ ?_; (· rfl); (· exact fun _ _ _ => trivial); simp only [Act.put, List.setIfInBounds_toArray, List.set_cons_zero, List.set_cons_succ])
        | (refine' head_val ?_ ?_ ?_ ?_; rotate_left; (· rfl); (· first | exact fun _ _ _ => trivial | (intro t ht w; cases ht; simp [upE])); (· intro w' hw' _; go_simp; with_reducible rfl); simp only [Act.put, List.setIfInBounds_toArray, List.set_cons_zero, List.set_cons_succ])
        | skip
          (refine' head_load1 (i := 3) (v := (.int .i64 leaf)) rfl ?_ rfl rfl W.out rfl Tryz.underlying3 rfl ?_; (first | exact fun _ _ _ => trivial | (intro t ht w; cases ht; simp [upE])); try simp only [Act.put, List.setIfInBounds_toArray, List.set_cons_zero, List.set_cons_succ])
        | skip
          (refine' head_load1 (i := 0) (v := (.int .i64 xl)) rfl ?_ rfl rfl G.out rfl Tryz.underlying3 rfl ?_; (first | exact fun _ _ _ => trivial | (intro t ht w; cases ht; simp [upE])); try simp only [Act.put, List.setIfInBounds_toArray, List.set_cons_zero, List.set_cons_succ])
        | skip
          (refine' head_load1 (i := 4) (v := (.int .i64 bit)) rfl ?_ rfl rfl W.out rfl Tryz.underlying3 rfl ?_; (first | exact fun _ _ _ => trivial | (intro t ht w; cases ht; simp [upE])); try simp only [Act.put, List.setIfInBounds_toArray, List.set_cons_zero, List.set_cons_succ])
      (refine head_nil ?_; intro wz hbz _; have HBZ := hid (Grow.trans HB.out hbz); refine wpList_nil ?_; go_wp2_with fail; go_ret; exact ⟨rfl, HBZ.out⟩)
    · (refine' wp_region_head 53 0 [_, _, _, _, _, _, _, _, _, _, _, _, _, _, _, _, _, _, _, _, _, _, _, _, _, _, _, _, _, _, _, _, _, _, _, _, _, _, _, _, _, _, _, _, _, _, _, _, _, _, _, _, _] rfl (by kernel_rfl) (by kernel_rfl) ?hreg3; case' hreg3 => simp only [List.take_succ_cons, List.take_zero, List.zip_cons_cons, List.zip_nil_right, List.drop_succ_cons, List.drop_zero, List.drop_nil])
      repeat first
        | (refine' head_skip (V := fun _ _ => True) ?_ ?_ ?_; (· rfl); (· exact fun _ _ _ => trivial); simp only [Act.put, List.setIfInBounds_toArray, List.set_cons_zero, List.set_cons_succ])
        | (refine' head_val ?_ ?_ ?_ ?_; rotate_left; (· rfl); (· first | exact fun _ _ _ => trivial | (intro t ht w; cases ht; simp [upE])); (· intro w' hw' _; go_simp; with_reducible rfl); simp only [Act.put, List.setIfInBounds_toArray, List.set_cons_zero, List.set_cons_succ])
        | skip
          (refine' head_load1 (i := 3) (v := (.int .i64 leaf)) rfl ?_ rfl rfl W.out rfl Tryz.underlying3 rfl ?_; (first | exact fun _ _ _ => trivial | (intro t ht w; cases ht; simp [upE])); try simp only [Act.put, List.setIfInBounds_toArray, List.set_cons_zero, List.set_cons_succ])
        | skip
          (refine' head_load1 (i := 0) (v := (.int .i64 xl)) rfl ?_ rfl rfl G.out rfl Tryz.underlying3 rfl ?_; (first | exact fun _ _ _ => trivial | (intro t ht w; cases ht; simp [upE])); try simp only [Act.put, List.setIfInBounds_toArray, List.set_cons_zero, List.set_cons_succ])
        | skip
          (refine' head_load1 (i := 4) (v := (.int .i64 bit)) rfl ?_ rfl rfl W.out rfl Tryz.underlying3 rfl ?_; (first | exact fun _ _ _ => trivial | (intro t ht w; cases ht; simp [upE])); try simp only [Act.put, List.setIfInBounds_toArray, List.set_cons_zero, List.set_cons_succ])
        | skip
          (refine' head_load1 (i := 0) (v := (.int .i64 (b : Int))) rfl ?_ rfl rfl P.out rfl Tryz.underlying3 rfl ?_; (first | exact fun _ _ _ => trivial | (intro t ht w; cases ht; simp [upE])); try simp only [Act.put, List.setIfInBounds_toArray, List.set_cons_zero, List.set_cons_succ])
      (refine head_nil ?_; intro wz hbz _; have HBZ := hid (Grow.trans HB.out hbz); refine wpList_nil ?_; go_wp2_with fail; go_ret; exact ⟨rfl, HBZ.out⟩)
    · (refine' wp_region_head 53 0 [_, _, _, _, _, _, _, _, _, _, _, _, _, _, _, _, _, _, _, _, _, _, _, _, _, _, _, _, _, _, _, _, _, _, _, _, _, _, _, _, _, _, _, _, _, _, _, _, _, _, _, _, _] rfl (by kernel_rfl) (by kernel_rfl) ?hreg4; case' hreg4 => simp only [List.take_succ_cons, List.take_zero, List.zip_cons_cons, List.zip_nil_right, List.drop_succ_cons, List.drop_zero, List.drop_nil])
      repeat first
        | (refine' head_skip (V := fun _ _ => True) ?_ ?_ ?_; (· rfl); (· exact fun _ _ _ => trivial); simp only [Act.put, List.setIfInBounds_toArray, List.set_cons_zero, List.set_cons_succ])
        | (refine' head_val ?_ ?_ ?_ ?_; rotate_left; (· rfl); (· first | exact fun _ _ _ => trivial | (intro t ht w; cases ht; simp [upE])); (· intro w' hw' _; go_simp; with_reducible rfl); simp only [Act.put, List.setIfInBounds_toArray, List.set_cons_zero, List.set_cons_succ])
        | skip
          (refine' head_load1 (i := 3) (v := (.int .i64 leaf)) rfl ?_ rfl rfl W.out rfl Tryz.underlying3 rfl ?_; (first | exact fun _ _ _ => trivial | (intro t ht w; cases ht; simp [upE])); try simp only [Act.put, List.setIfInBounds_toArray, List.set_cons_zero, List.set_cons_succ])
        | skip
          (refine' head_load1 (i := 0) (v := (.int .i64 xl)) rfl ?_ rfl rfl G.out rfl Tryz.underlying3 rfl ?_; (first | exact fun _ _ _ => trivial | (intro t ht w; cases ht; simp [upE])); try simp only [Act.put, List.setIfInBounds_toArray, List.set_cons_zero, List.set_cons_succ])
        | skip
          (refine' head_load1 (i := 4) (v := (.int .i64 bit)) rfl ?_ rfl rfl W.out rfl Tryz.underlying3 rfl ?_; (first | exact fun _ _ _ => trivial | (intro t ht w; cases ht; simp [upE])); try simp only [Act.put, List.setIfInBounds_toArray, List.set_cons_zero, List.set_cons_succ])
        | skip
          (refine' head_load1 (i := 0) (v := (.int .i64 (b : Int))) rfl ?_ rfl rfl P.out rfl Tryz.underlying3 rfl ?_; (first | exact fun _ _ _ => trivial | (intro t ht w; cases ht; simp [upE])); try simp only [Act.put, List.setIfInBounds_toArray, List.set_cons_zero, List.set_cons_succ])
        | skip
          (refine' head_load1 (i := 5) (v := (.int .i64 side)) rfl ?_ rfl rfl W.out rfl Tryz.underlying3 rfl ?_; (first | exact fun _ _ _ => trivial | (intro t ht w; cases ht; simp [upE])); try simp only [Act.put, List.setIfInBounds_toArray, List.set_cons_zero, List.set_cons_succ])
      (refine head_nil ?_; intro wz hbz _; have HBZ := hid (Grow.trans HB.out hbz); refine wpList_nil ?_; go_wp2_with fail; go_ret; exact ⟨rfl, HBZ.out⟩)
    · (refine' wp_region_head 53 0 [_, _, _, _, _, _, _, _, _, _, _, _, _, _, _, _, _, _, _, _, _, _, _, _, _, _, _, _, _, _, _, _, _, _, _, _, _, _, _, _, _, _, _, _, _, _, _, _, _, _, _, _, _] rfl (by kernel_rfl) (by kernel_rfl) ?hreg5; case' hreg5 => simp only [List.take_succ_cons, List.take_zero, List.zip_cons_cons, List.zip_nil_right, List.drop_succ_cons, List.drop_zero, List.drop_nil])
      repeat first
        | (refine' head_skip (V := fun _ _ => True) ?_ ?_ ?_; (· rfl); (· exact fun _ _ _ => trivial); simp only [Act.put, List.setIfInBounds_toArray, List.set_cons_zero, List.set_cons_succ])
        | (refine' head_val ?_ ?_ ?_ ?_; rotate_left; (· rfl); (· first | exact fun _ _ _ => trivial | (intro t ht w; cases ht; simp [upE])); (· intro w' hw' _; go_simp; with_reducible rfl); simp only [Act.put, List.setIfInBounds_toArray, List.set_cons_zero, List.set_cons_succ])
        | skip
          (refine' head_load1 (i := 3) (v := (.int .i64 leaf)) rfl ?_ rfl rfl W.out rfl Tryz.underlying3 rfl ?_; (first | exact fun _ _ _ => trivial | (intro t ht w; cases ht; simp [upE])); try simp only [Act.put, List.setIfInBounds_toArray, List.set_cons_zero, List.set_cons_succ])
        | skip
          (refine' head_load1 (i := 0) (v := (.int .i64 xl)) rfl ?_ rfl rfl G.out rfl Tryz.underlying3 rfl ?_; (first | exact fun _ _ _ => trivial | (intro t ht w; cases ht; simp [upE])); try simp only [Act.put, List.setIfInBounds_toArray, List.set_cons_zero, List.set_cons_succ])
        | skip
          (refine' head_load1 (i := 4) (v := (.int .i64 bit)) rfl ?_ rfl rfl W.out rfl Tryz.underlying3 rfl ?_; (first | exact fun _ _ _ => trivial | (intro t ht w; cases ht; simp [upE])); try simp only [Act.put, List.setIfInBounds_toArray, List.set_cons_zero, List.set_cons_succ])
        | skip
          (refine' head_load1 (i := 0) (v := (.int .i64 (b : Int))) rfl ?_ rfl rfl P.out rfl Tryz.underlying3 rfl ?_; (first | exact fun _ _ _ => trivial | (intro t ht w; cases ht; simp [upE])); try simp only [Act.put, List.setIfInBounds_toArray, List.set_cons_zero, List.set_cons_succ])
        | skip
          (refine' head_load1 (i := 5) (v := (.int .i64 side)) rfl ?_ rfl rfl W.out rfl Tryz.underlying3 rfl ?_; (first | exact fun _ _ _ => trivial | (intro t ht w; cases ht; simp [upE])); try simp only [Act.put, List.setIfInBounds_toArray, List.set_cons_zero, List.set_cons_succ])
        | skip
          (refine' head_call ?cw6 ?ce6 ?cr6 ?cc6 ?ch6; (case' cw6 => rfl); (case' ce6 => (first | exact fun _ _ _ => trivial | (intro t ht w; cases ht; simp [upE]))); (case' cr6 => (intro w'; go_simp; first | exact ⟨rfl, rfl⟩ | with_reducible rfl)); (case' cc6 => (intro w' hw' _; exact hch w' (H0.out.grow hw'))); (case' ch6 => (try simp only [Act.put, List.setIfInBounds_toArray, List.set_cons_zero, List.set_cons_succ])))
      (refine head_nil ?_; intro wz hbz _; have HBZ := hid (Grow.trans HB.out hbz); refine wpList_nil ?_; go_wp2_with fail; go_ret; exact ⟨rfl, HBZ.out⟩)
    · (refine' wp_region_head 53 0 [_, _, _, _, _, _, _, _, _, _, _, _, _, _, _, _, _, _, _, _, _, _, _, _, _, _, _, _, _, _, _, _, _, _, _, _, _, _, _, _, _, _, _, _, _, _, _, _, _, _, _, _, _] rfl (by kernel_rfl) (by kernel_rfl) ?hreg7; case' hreg7 => simp only [List.take_succ_cons, List.take_zero, List.zip_cons_cons, List.zip_nil_right, List.drop_succ_cons, List.drop_zero, List.drop_nil])
      repeat first
        | (refine' head_skip (V := fun _ _ => True) ?_ ?_ ?_; (· rfl); (· exact fun _ _ _ => trivial); simp only [Act.put, List.setIfInBounds_toArray, List.set_cons_zero, List.set_cons_succ])
        | (refine' head_val ?_ ?_ ?_ ?_; rotate_left; (· rfl); (· first | exact fun _ _ _ => trivial | (intro t ht w; cases ht; simp [upE])); (· intro w' hw' _; go_simp; with_reducible rfl); simp only [Act.put, List.setIfInBounds_toArray, List.set_cons_zero, List.set_cons_succ])
        | skip
          (refine' head_load1 (i := 3) (v := (.int .i64 leaf)) rfl ?_ rfl rfl W.out rfl Tryz.underlying3 rfl ?_; (first | exact fun _ _ _ => trivial | (intro t ht w; cases ht; simp [upE])); try simp only [Act.put, List.setIfInBounds_toArray, List.set_cons_zero, List.set_cons_succ])
        | skip
          (refine' head_load1 (i := 0) (v := (.int .i64 xl)) rfl ?_ rfl rfl G.out rfl Tryz.underlying3 rfl ?_; (first | exact fun _ _ _ => trivial | (intro t ht w; cases ht; simp [upE])); try simp only [Act.put, List.setIfInBounds_toArray, List.set_cons_zero, List.set_cons_succ])
        | skip
          (refine' head_load1 (i := 4) (v := (.int .i64 bit)) rfl ?_ rfl rfl W.out rfl Tryz.underlying3 rfl ?_; (first | exact fun _ _ _ => trivial | (intro t ht w; cases ht; simp [upE])); try simp only [Act.put, List.setIfInBounds_toArray, List.set_cons_zero, List.set_cons_succ])
        | skip
          (refine' head_load1 (i := 0) (v := (.int .i64 (b : Int))) rfl ?_ rfl rfl P.out rfl Tryz.underlying3 rfl ?_; (first | exact fun _ _ _ => trivial | (intro t ht w; cases ht; simp [upE])); try simp only [Act.put, List.setIfInBounds_toArray, List.set_cons_zero, List.set_cons_succ])
        | skip
          (refine' head_load1 (i := 5) (v := (.int .i64 side)) rfl ?_ rfl rfl W.out rfl Tryz.underlying3 rfl ?_; (first | exact fun _ _ _ => trivial | (intro t ht w; cases ht; simp [upE])); try simp only [Act.put, List.setIfInBounds_toArray, List.set_cons_zero, List.set_cons_succ])
        | skip
          (refine' head_call ?cw8 ?ce8 ?cr8 ?cc8 ?ch8; (case' cw8 => rfl); (case' ce8 => (first | exact fun _ _ _ => trivial | (intro t ht w; cases ht; simp [upE]))); (case' cr8 => (intro w'; go_simp; first | exact ⟨rfl, rfl⟩ | with_reducible rfl)); (case' cc8 => (intro w' hw' _; exact hch w' (H0.out.grow hw'))); (case' ch8 => (try simp only [Act.put, List.setIfInBounds_toArray, List.set_cons_zero, List.set_cons_succ])))
        | skip
          (refine' head_loadAt (x := _) rfl ?_ rfl rfl (wit_val_cells W.out) (HV.out) ?_; (first | exact fun _ _ _ => trivial | (intro t ht w; cases ht; simp [upE])); try simp only [Act.put, List.setIfInBounds_toArray, List.set_cons_zero, List.set_cons_succ])
        | skip
          (refine' head_call ?cw9 ?ce9 ?cr9 ?cc9 ?ch9; (case' cw9 => rfl); (case' ce9 => (first | exact fun _ _ _ => trivial | (intro t ht w; cases ht; simp [upE]))); (case' cr9 => (intro w'; go_simp; first | exact ⟨rfl, rfl⟩ | with_reducible rfl)); (case' cc9 => (intro w' hw' _; exact HPV.out w')); (case' ch9 => (try simp only [Act.put, List.setIfInBounds_toArray, List.set_cons_zero, List.set_cons_succ])))
        | skip
          (refine' head_call ?cw10 ?ce10 ?cr10 ?cc10 ?ch10; (case' cw10 => rfl); (case' ce10 => (first | exact fun _ _ _ => trivial | (intro t ht w; cases ht; simp [upE]))); (case' cr10 => (intro w'; go_simp; first | exact ⟨rfl, rfl⟩ | with_reducible rfl)); (case' cc10 => (intro w' hw' _; exact HSC.out w')); (case' ch10 => (try simp only [Act.put, List.setIfInBounds_toArray, List.set_cons_zero, List.set_cons_succ])))
        | skip
          (refine' head_call ?cw11 ?ce11 ?cr11 ?cc11 ?ch11; (case' cw11 => rfl); (case' ce11 => (first | exact fun _ _ _ => trivial | (intro t ht w; cases ht; simp [upE]))); (case' cr11 => (intro w'; go_simp; first | exact ⟨rfl, rfl⟩ | with_reducible rfl)); (case' cc11 => (intro w' hw' _; exact HPS.out w')); (case' ch11 => (try simp only [Act.put, List.setIfInBounds_toArray, List.set_cons_zero, List.set_cons_succ])))
      (refine head_nil ?_; intro wz hbz _; have HBZ := hid (Grow.trans HB.out hbz); refine wpList_nil ?_; go_wp2_with fail; go_ret; exact ⟨rfl, HBZ.out⟩)
    · (refine' wp_region_head 53 0 [_, _, _, _, _, _, _, _, _, _, _, _, _, _, _, _, _, _, _, _, _, _, _, _, _, _, _, _, _, _, _, _, _, _, _, _, _, _, _, _, _, _, _, _, _, _, _, _, _, _, _, _, _] rfl (by kernel_rfl) (by kernel_rfl) ?hreg12; case' hreg12 => simp only [List.take_succ_cons, List.take_zero, List.zip_cons_cons, List.zip_nil_right, List.drop_succ_cons, List.drop_zero, List.drop_nil])
      repeat first
        | (refine' head_skip (V := fun _ _ => True) ?_ ?_ ?_; (· rfl); (· exact fun _ _ _ => trivial); simp only [Act.put, List.setIfInBounds_toArray, List.set_cons_zero, List.set_cons_succ])
        | (refine' head_val ?_ ?_ ?_ ?_; rotate_left; (· rfl); (· first | exact fun _ _ _ => trivial | (intro t ht w; cases ht; simp [upE])); (· intro w' hw' _; go_simp; with_reducible rfl); simp only [Act.put, List.setIfInBounds_toArray, List.set_cons_zero, List.set_cons_succ])
        | skip
          (refine' head_load1 (i := 3) (v := (.int .i64 leaf)) rfl ?_ rfl rfl W.out rfl Tryz.underlying3 rfl ?_; (first | exact fun _ _ _ => trivial | (intro t ht w; cases ht; simp [upE])); try simp only [Act.put, List.setIfInBounds_toArray, List.set_cons_zero, List.set_cons_succ])
        | skip
          (refine' head_load1 (i := 0) (v := (.int .i64 xl)) rfl ?_ rfl rfl G.out rfl Tryz.underlying3 rfl ?_; (first | exact fun _ _ _ => trivial | (intro t ht w; cases ht; simp [upE])); try simp only [Act.put, List.setIfInBounds_toArray, List.set_cons_zero, List.set_cons_succ])
        | skip
          (refine' head_load1 (i := 4) (v := (.int .i64 bit)) rfl ?_ rfl rfl W.out rfl Tryz.underlying3 rfl ?_; (first | exact fun _ _ _ => trivial | (intro t ht w; cases ht; simp [upE])); try simp only [Act.put, List.setIfInBounds_toArray, List.set_cons_zero, List.set_cons_succ])
        | skip
          (refine' head_load1 (i := 0) (v := (.int .i64 (b : Int))) rfl ?_ rfl rfl P.out rfl Tryz.underlying3 rfl ?_; (first | exact fun _ _ _ => trivial | (intro t ht w; cases ht; simp [upE])); try simp only [Act.put, List.setIfInBounds_toArray, List.set_cons_zero, List.set_cons_succ])
        | skip
          (refine' head_load1 (i := 5) (v := (.int .i64 side)) rfl ?_ rfl rfl W.out rfl Tryz.underlying3 rfl ?_; (first | exact fun _ _ _ => trivial | (intro t ht w; cases ht; simp [upE])); try simp only [Act.put, List.setIfInBounds_toArray, List.set_cons_zero, List.set_cons_succ])
        | skip
          (refine' head_call ?cw13 ?ce13 ?cr13 ?cc13 ?ch13; (case' cw13 => rfl); (case' ce13 => (first | exact fun _ _ _ => trivial | (intro t ht w; cases ht; simp [upE]))); (case' cr13 => (intro w'; go_simp; first | exact ⟨rfl, rfl⟩ | with_reducible rfl)); (case' cc13 => (intro w' hw' _; exact hch w' (H0.out.grow hw'))); (case' ch13 => (try simp only [Act.put, List.setIfInBounds_toArray, List.set_cons_zero, List.set_cons_succ])))
      (refine head_nil ?_; intro wz hbz _; have HBZ := hid (Grow.trans HB.out hbz); refine wpList_nil ?_; go_wp2_with fail; go_ret; exact ⟨rfl, HBZ.out⟩)
    · (refine' wp_region_head 53 0 [_, _, _, _, _, _, _, _, _, _, _, _, _, _, _, _, _, _, _, _, _, _, _, _, _, _, _, _, _, _, _, _, _, _, _, _, _, _, _, _, _, _, _, _, _, _, _, _, _, _, _, _, _] rfl (by kernel_rfl) (by kernel_rfl) ?hreg14; case' hreg14 => simp only [List.take_succ_cons, List.take_zero, List.zip_cons_cons, List.zip_nil_right, List.drop_succ_cons, List.drop_zero, List.drop_nil])
      repeat first
        | (refine' head_skip (V := fun _ _ => True) ?_ ?_ ?_; (· rfl); (· exact fun _ _ _ => trivial); simp only [Act.put, List.setIfInBounds_toArray, List.set_cons_zero, List.set_cons_succ])
        | (refine' head_val ?_ ?_ ?_ ?_; rotate_left; (· rfl); (· first | exact fun _ _ _ => trivial | (intro t ht w; cases ht; simp [upE])); (· intro w' hw' _; go_simp; with_reducible rfl); simp only [Act.put, List.setIfInBounds_toArray, List.set_cons_zero, List.set_cons_succ])
        | skip
          (refine' head_load1 (i := 3) (v := (.int .i64 leaf)) rfl ?_ rfl rfl W.out rfl Tryz.underlying3 rfl ?_; (first | exact fun _ _ _ => trivial | (intro t ht w; cases ht; simp [upE])); try simp only [Act.put, List.setIfInBounds_toArray, List.set_cons_zero, List.set_cons_succ])
        | skip
          (refine' head_load1 (i := 0) (v := (.int .i64 xl)) rfl ?_ rfl rfl G.out rfl Tryz.underlying3 rfl ?_; (first | exact fun _ _ _ => trivial | (intro t ht w; cases ht; simp [upE])); try simp only [Act.put, List.setIfInBounds_toArray, List.set_cons_zero, List.set_cons_succ])
        | skip
          (refine' head_load1 (i := 4) (v := (.int .i64 bit)) rfl ?_ rfl rfl W.out rfl Tryz.underlying3 rfl ?_; (first | exact fun _ _ _ => trivial | (intro t ht w; cases ht; simp [upE])); try simp only [Act.put, List.setIfInBounds_toArray, List.set_cons_zero, List.set_cons_succ])
        | skip
          (refine' head_load1 (i := 0) (v := (.int .i64 (b : Int))) rfl ?_ rfl rfl P.out rfl Tryz.underlying3 rfl ?_; (first | exact fun _ _ _ => trivial | (intro t ht w; cases ht; simp [upE])); try simp only [Act.put, List.setIfInBounds_toArray, List.set_cons_zero, List.set_cons_succ])
        | skip
          (refine' head_load1 (i := 5) (v := (.int .i64 side)) rfl ?_ rfl rfl W.out rfl Tryz.underlying3 rfl ?_; (first | exact fun _ _ _ => trivial | (intro t ht w; cases ht; simp [upE])); try simp only [Act.put, List.setIfInBounds_toArray, List.set_cons_zero, List.set_cons_succ])
        | skip
          (refine' head_call ?cw15 ?ce15 ?cr15 ?cc15 ?ch15; (case' cw15 => rfl); (case' ce15 => (first | exact fun _ _ _ => trivial | (intro t ht w; cases ht; simp [upE]))); (case' cr15 => (intro w'; go_simp; first | exact ⟨rfl, rfl⟩ | with_reducible rfl)); (case' cc15 => (intro w' hw' _; exact hch w' (H0.out.grow hw'))); (case' ch15 => (try simp only [Act.put, List.setIfInBounds_toArray, List.set_cons_zero, List.set_cons_succ])))
        | skip
          (refine' head_loadAt (x := _) rfl ?_ rfl rfl (wit_val_cells W.out) (HV.out) ?_; (first | exact fun _ _ _ => trivial | (intro t ht w; cases ht; simp [upE])); try simp only [Act.put, List.setIfInBounds_toArray, List.set_cons_zero, List.set_cons_succ])
        | skip
          (refine' head_call ?cw16 ?ce16 ?cr16 ?cc16 ?ch16; (case' cw16 => rfl); (case' ce16 => (first | exact fun _ _ _ => trivial | (intro t ht w; cases ht; simp [upE]))); (case' cr16 => (intro w'; go_simp; first | exact ⟨rfl, rfl⟩ | with_reducible rfl)); (case' cc16 => (intro w' hw' _; exact HPV.out w')); (case' ch16 => (try simp only [Act.put, List.setIfInBounds_toArray, List.set_cons_zero, List.set_cons_succ])))
        | skip
          (refine' head_call ?cw17 ?ce17 ?cr17 ?cc17 ?ch17; (case' cw17 => rfl); (case' ce17 => (first | exact fun _ _ _ => trivial | (intro t ht w; cases ht; simp [upE]))); (case' cr17 => (intro w'; go_simp; first | exact ⟨rfl, rfl⟩ | with_reducible rfl)); (case' cc17 => (intro w' hw' _; exact HSC.out w')); (case' ch17 => (try simp only [Act.put, List.setIfInBounds_toArray, List.set_cons_zero, List.set_cons_succ])))
        | skip
          (refine' head_call ?cw18 ?ce18 ?cr18 ?cc18 ?ch18; (case' cw18 => rfl); (case' ce18 => (first | exact fun _ _ _ => trivial | (intro t ht w; cases ht; simp [upE]))); (case' cr18 => (intro w'; go_simp; first | exact ⟨rfl, rfl⟩ | with_reducible rfl)); (case' cc18 => (intro w' hw' _; exact HPS.out w')); (case' ch18 => (try simp only [Act.put, List.setIfInBounds_toArray, List.set_cons_zero, List.set_cons_succ])))
      (refine head_nil ?_; intro wz hbz _; have HBZ := hid (Grow.trans HB.out hbz); refine wpList_nil ?_; go_wp2_with fail; go_ret; exact ⟨rfl, HBZ.out⟩)
  have t3 : (k == 3) = false := by simpa using k3
  by_cases k2 : k = 2
  · have t2 : (k == 2) = true := by simpa using k2
    have E2 := HE2.out k2
    clear HE3 HE2 E1 E4 k1 k2 k3
    have HE2 := hid E2
    clear E2
    go_wp2_with (first | (refine opG_load1 (i := 0) (v := .int .i64 k) rfl rfl rfl W.out rfl Tryz.underlying3 rfl ?_) | (refine opG_loadB rfl rfl rfl P.out Tryz.underlying54 rfl rfl ?_) | (refine opG_load1 rfl rfl rfl P.out rfl Tryz.underlying3 rfl ?_) | (refine opG_load1 rfl rfl rfl G.out rfl Tryz.underlying3 rfl ?_) | (refine opG_load1 rfl rfl rfl G.out rfl Tryz.underlying56 rfl ?_) | (refine op_loadId rfl rfl rfl X.out (HS.out) ?_) |  fail)
    rcases HE2.out with ⟨q0, q1, rfl⟩ | ⟨q0, rfl⟩
    · (refine' wp_region_head 15 0 [_, _, _, _, _, _, _, _, _, _, _, _, _, _, _] rfl (by kernel_rfl) (by kernel_rfl) ?hreg19; case' hreg19 => simp only [List.take_succ_cons, List.take_zero, List.zip_cons_cons, List.zip_nil_right, List.drop_succ_cons, List.drop_zero, List.drop_nil])
      repeat first
        | (refine' head_skip (V := fun _ _ => True) ?_ ?_ ?_; (· rfl); (· exact fun _ _ _ => trivial); simp only [Act.put, List.setIfInBounds_toArray, List.set_cons_zero, List.set_cons_succ])
        | (refine' head_val ?_ ?_ ?_ ?_; rotate_left; (· rfl); (· first | exact fun _ _ _ => trivial | (intro t ht w; cases ht; simp [upE])); (· intro w' hw' _; go_simp; with_reducible rfl); simp only [Act.put, List.setIfInBounds_toArray, List.set_cons_zero, List.set_cons_succ])
        | skip
          (refine' head_load1 (i := 1) (v := (.string (bs sa))) rfl ?_ rfl rfl W.out rfl Tryz.underlying9 rfl ?_; (first | exact fun _ _ _ => trivial | (intro t ht w; cases ht; simp [upE])); try simp only [Act.put, List.setIfInBounds_toArray, List.set_cons_zero, List.set_cons_succ])
        | skip
          (refine' head_load1 (i := 2) (v := (.string (bs sc))) rfl ?_ rfl rfl W.out rfl Tryz.underlying9 rfl ?_; (first | exact fun _ _ _ => trivial | (intro t ht w; cases ht; simp [upE])); try simp only [Act.put, List.setIfInBounds_toArray, List.set_cons_zero, List.set_cons_succ])
      (refine head_nil ?_; intro wz hbz _; have HBZ := hid (Grow.trans HB.out hbz); refine wpList_nil ?_; go_wp2_with fail; go_ret; exact ⟨rfl, HBZ.out⟩)
    · (refine' wp_region_head 15 0 [_, _, _, _, _, _, _, _, _, _, _, _, _, _, _] rfl (by kernel_rfl) (by kernel_rfl) ?hreg20; case' hreg20 => simp only [List.take_succ_cons, List.take_zero, List.zip_cons_cons, List.zip_nil_right, List.drop_succ_cons, List.drop_zero, List.drop_nil])
      repeat first
        | (refine' head_skip (V := fun _ _ => True) ?_ ?_ ?_; (· rfl); (· exact fun _ _ _ => trivial); simp only [Act.put, List.setIfInBounds_toArray, List.set_cons_zero, List.set_cons_succ])
        | (refine' head_val ?_ ?_ ?_ ?_; rotate_left; (· rfl); (· first | exact fun _ _ _ => trivial | (intro t ht w; cases ht; simp [upE])); (· intro w' hw' _; go_simp; with_reducible rfl); simp only [Act.put, List.setIfInBounds_toArray, List.set_cons_zero, List.set_cons_succ])
        | skip
          (refine' head_load1 (i := 1) (v := (.string (bs sa))) rfl ?_ rfl rfl W.out rfl Tryz.underlying9 rfl ?_; (first | exact fun _ _ _ => trivial | (intro t ht w; cases ht; simp [upE])); try simp only [Act.put, List.setIfInBounds_toArray, List.set_cons_zero, List.set_cons_succ])
        | skip
          (refine' head_load1 (i := 2) (v := (.string (bs sc))) rfl ?_ rfl rfl W.out rfl Tryz.underlying9 rfl ?_; (first | exact fun _ _ _ => trivial | (intro t ht w; cases ht; simp [upE])); try simp only [Act.put, List.setIfInBounds_toArray, List.set_cons_zero, List.set_cons_succ])
        | skip
          (refine' head_call ?cw21 ?ce21 ?cr21 ?cc21 ?ch21; (case' cw21 => rfl); (case' ce21 => (first | exact fun _ _ _ => trivial | (intro t ht w; cases ht; simp [upE]))); (case' cr21 => (intro w'; go_simp; first | exact ⟨rfl, rfl⟩ | with_reducible rfl)); (case' cc21 => (intro w' hw' _; exact HU1.out w')); (case' ch21 => (try simp only [Act.put, List.setIfInBounds_toArray, List.set_cons_zero, List.set_cons_succ])))
        | skip
          (refine' head_call ?cw22 ?ce22 ?cr22 ?cc22 ?ch22; (case' cw22 => rfl); (case' ce22 => (first | exact fun _ _ _ => trivial | (intro t ht w; cases ht; simp [upE]))); (case' cr22 => (intro w'; go_simp; first | exact ⟨rfl, rfl⟩ | with_reducible rfl)); (case' cc22 => (intro w' hw' _; exact HU2.out w')); (case' ch22 => (try simp only [Act.put, List.setIfInBounds_toArray, List.set_cons_zero, List.set_cons_succ])))
      (refine head_nil ?_; intro wz hbz _; have HBZ := hid (Grow.trans HB.out hbz); refine wpList_nil ?_; go_wp2_with fail; go_ret; exact ⟨rfl, HBZ.out⟩)
  have t2 : (k == 2) = false := by simpa using k2
  obtain rfl := E4 k1 k2 k3
  clear E1 k1 k2 k3 HE2 HE3
  go_wp2_with (first | (refine opG_load1 (i := 0) (v := .int .i64 k) rfl rfl rfl W.out rfl Tryz.underlying3 rfl ?_) | (refine opG_loadB rfl rfl rfl P.out Tryz.underlying54 rfl rfl ?_) | (refine opG_load1 rfl rfl rfl P.out rfl Tryz.underlying3 rfl ?_) | (refine opG_load1 rfl rfl rfl G.out rfl Tryz.underlying3 rfl ?_) | (refine opG_load1 rfl rfl rfl G.out rfl Tryz.underlying56 rfl ?_) | (refine op_loadId rfl rfl rfl X.out (HS.out) ?_) |  fail)
  go_ret
  exact ⟨rfl, HB.out⟩
theorem wHolds_bad (seed : ByteArray) (b h : Int) (hkt : ktB b h = false) (v2 : Value) (sum : IdK) (xl : Int) (A B C : Option Addr) (n m q c d e : Nat) (k : Int) (sa sc : List UInt8) (leaf bit side : Int) (v : IdK) (w : World) :
    Calls Tryz.prog 37 #[.agg #[.int .i64 b, .int .i64 h], .string seed, v2, idV sum, .agg #[.int .i64 xl, .slice A n c, .slice B m d, .slice C q e], .agg (witC k sa sc leaf bit side v).toArray] w fun r w' => r = .returned (.bool false) ∧ Below w.heap.size w w' := by
  have HKT := hid hkt
  clear hkt
  go_enter Tryz.func37, Tryz.ntmps37
  have HB := hid (grow_refl w)
  apply wp_seq_k; intro _ _; apply wp_region_lit
  refine op_boxC (cs := #[.int .i64 b, .int .i64 h]) rfl rfl rfl rfl ?_
  intro gp w1 hgl hgu hb hr
  have PL := hid (Nat.le_trans HB.out.size hgl)
  replace HB := hid (Grow.trans HB.out hb)
  have P := hid hr; have PU := hid hgu
  clear hr hgl hgu hb
  try simp only [Act.put, List.setIfInBounds_toArray, List.set_cons_zero, List.set_cons_succ]
  refine op_box (l := sum) rfl rfl rfl ?_
  intro gs w2 hgl hgu hb hr
  have XL := hid (Nat.le_trans HB.out.size hgl)
  replace HB := hid (Grow.trans HB.out hb)
  replace P := hid (grow_block P.out hb)
  have X := hid hr; have XU := hid hgu
  clear hr hgl hgu hb
  try simp only [Act.put, List.setIfInBounds_toArray, List.set_cons_zero, List.set_cons_succ]
  refine op_boxC (cs := #[.int .i64 xl, .slice A n c, .slice B m d, .slice C q e]) rfl rfl rfl rfl ?_
  intro gx w3 hgl hgu hb hr
  have GL := hid (Nat.le_trans HB.out.size hgl)
  replace HB := hid (Grow.trans HB.out hb)
  replace P := hid (grow_block P.out hb)
  replace X := hid (grow_block X.out hb)
  have G := hid hr; have GU := hid hgu
  clear hr hgl hgu hb
  try simp only [Act.put, List.setIfInBounds_toArray, List.set_cons_zero, List.set_cons_succ]
  refine op_boxC (cs := (witC k sa sc leaf bit side v).toArray) rfl rfl rfl rfl ?_
  intro gw w4 hgl hgu hb hr
  have WL := hid (Nat.le_trans HB.out.size hgl)
  replace HB := hid (Grow.trans HB.out hb)
  replace P := hid (grow_block P.out hb)
  replace X := hid (grow_block X.out hb)
  replace G := hid (grow_block G.out hb)
  have W := hid hr; have WU := hid hgu
  clear hr hgl hgu hb
  try simp only [Act.put, List.setIfInBounds_toArray, List.set_cons_zero, List.set_cons_succ]
  go_wp2_with (first | (refine opG_loadB rfl rfl rfl P.out Tryz.underlying54 rfl rfl ?_) | (refine opG_load1 rfl rfl rfl P.out rfl Tryz.underlying3 rfl ?_) |  fail)
  refine (ktRight b h _).mono ?_
  rintro e w5 ⟨rfl, hb⟩
  replace HB := hid (Grow.trans HB.out hb)
  replace P := hid (grow_block P.out hb)
  replace X := hid (grow_block X.out hb)
  replace G := hid (grow_block G.out hb)
  replace W := hid (grow_block W.out hb)
  clear hb
  rw [HKT.out]
  go_wp2_with (first | (refine opG_loadB rfl rfl rfl P.out Tryz.underlying54 rfl rfl ?_) | (refine opG_load1 rfl rfl rfl P.out rfl Tryz.underlying3 rfl ?_) |  fail)
  go_ret
  exact ⟨rfl, HB.out⟩
end Go.Proofs.YtabkaflccaklhaaGreat
