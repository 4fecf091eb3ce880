/- witness.Holds and the law's holds: contracts (printed by gen_with2.py). -/
import Derived.Test.YtabkaflccaklhaaGreatQWitT
set_option linter.unusedSimpArgs false
set_option linter.unusedVariables false
namespace Go.Proofs.YtabkaflccaklhaaGreat
open Go.RowKit
open Go.Qk hiding rotr b4
set_option maxHeartbeats 4000000
set_option maxRecDepth 100000
def holdsB (b : Nat) (seed : ByteArray) (fs : List WRow) (sum : IdK) (xl k : Int) (a c : List UInt8) (leaf bit side : Int) (v : IdK) : Bool :=
  if k = 1 then honestW b fs sum xl
  else if k = 2 then !decide (a = c) && decide (shaOf a = shaOf c)
  else if k = 3 then decide (leaf = xl) && (decide (0 ≤ bit) && (decide (bit < (b : Int)) && ((decide (0 ≤ side) && decide (side ≤ 1)) && (!shownW fs leaf bit.toNat side && decide (publicOf v = publicOf (secretOf seed leaf bit side))))))
  else false
theorem id_eql_dec (l m : IdK) (hl : l.length = 32) (hm : m.length = 32) (w : World) : (Go.binOp .eql 42 (idV l) (idV m)).run Tryz.prog w = .ok (.bool (decide (l = m))) w := by
  rw [id_eql l m hl hm w]
  by_cases h : l = m
  · subst h; simp
  · have e1 : (l == m) = false := by simpa using h
    have e2 : decide (l = m) = false := by simpa using h
    rw [e1, e2]
theorem str_eqT (l : List UInt8) : ((bs l).toList == (bs l).toList) = true := beq_self_eq_true _
theorem str_neT (l : List UInt8) : ((bs l).toList != (bs l).toList) = false := by simp
theorem lawHolds (seed : ByteArray) (hsd : seed.size ≤ 1000000) (b h : Nat) (hkt : ktB (b : Int) (h : Int) = true) (A0 : Option Addr) (n0 c0 : Nat) (fs : List WRow) (sum : IdK) (hs : sum.length = 32) (xl : Int) (A B C : Option Addr) (n m q c d e : Nat) (k : Int) (sa sc : List UInt8) (hsa : sa.length ≤ 140737488355328) (hsc : sc.length ≤ 140737488355328) (leaf bit side : Int) (hlf : leaf ≤ 9223372036854775807) (v : IdK) (hv : v.length = 32) (w : World) (h0 : WrRow w A0 fs) (hn0 : fs.length = n0) (f32 : ∀ x ∈ fs, x.2.length = 32) :
    Calls Tryz.prog 36 #[.agg #[.int .i64 (b : Int), .int .i64 (h : Int)], .string seed, .slice A0 n0 c0, idV sum, .agg #[.int .i64 xl, .slice A n c, .slice B m d, .slice C q e], .agg (witC k sa sc leaf bit side v).toArray] w fun r w' => r = .returned (.bool (holdsB b seed fs sum xl k sa sc leaf bit side v)) ∧ Below w.heap.size w w' := by
  have hb256 : b ≤ 256 := by have := kt_bounds hkt; omega
  obtain ⟨rb, hhb⟩ : ∃ rb, rb = holdsB b seed fs sum xl k sa sc leaf bit side v := ⟨_, rfl⟩
  have E1 : k = 1 → rb = honestW b fs sum xl := fun h1 => by rw [hhb]; unfold holdsB; rw [if_pos h1]
  have E4 : k ≠ 1 → k ≠ 2 → k ≠ 3 → rb = false := fun h1 h2 h3 => by rw [hhb]; unfold holdsB; rw [if_neg h1, if_neg h2, if_neg h3]
  have E2 : k = 2 → (((bs sa).toList == (bs sc).toList) = true ∧ ((bs sa).toList != (bs sc).toList) = false ∧ rb = false) ∨ (((bs sa).toList == (bs sc).toList) = false ∧ rb = decide (shaOf sa = shaOf sc)) := fun h2 => by
    have e2 : rb = (!decide (sa = sc) && decide (shaOf sa = shaOf sc)) := by rw [hhb]; unfold holdsB; rw [if_neg (by omega), if_pos h2]
    by_cases he : sa = sc
    · rw [decide_eq_true he] at e2
      subst he
      exact .inl ⟨str_eqT _, str_neT _, by rw [e2]; rfl⟩
    · rw [decide_eq_false he, Bool.not_false, Bool.true_and] at e2
      exact .inr ⟨toList_beq_ne (fun e => he (bs_inj e)), e2⟩
  have E3 : k = 3 → ((leaf == xl) = false ∧ rb = false) ∨ ((leaf == xl) = true ∧ decide (0 ≤ bit) = false ∧ rb = false) ∨ ((leaf == xl) = true ∧ decide (0 ≤ bit) = true ∧ decide (bit < (b : Int)) = false ∧ rb = false) ∨ ((leaf == xl) = true ∧ decide (0 ≤ bit) = true ∧ decide (bit < (b : Int)) = true ∧ decide (0 ≤ side) = false ∧ rb = false) ∨ ((leaf == xl) = true ∧ decide (0 ≤ bit) = true ∧ decide (bit < (b : Int)) = true ∧ decide (0 ≤ side) = true ∧ decide (side ≤ 1) = false ∧ rb = false) ∨ ((leaf == xl) = true ∧ decide (0 ≤ bit) = true ∧ decide (bit < (b : Int)) = true ∧ decide (0 ≤ side) = true ∧ decide (side ≤ 1) = true ∧ (∀ w, WrRow w A0 fs → Calls Tryz.prog 67 #[.slice A0 n0 c0, .int .i64 leaf, .int .i64 bit, .int .i64 side] w fun e w' => e = .returned (.bool (!true)) ∧ Below w.heap.size w w') ∧ rb = false) ∨ ((leaf == xl) = true ∧ decide (0 ≤ bit) = true ∧ decide (bit < (b : Int)) = true ∧ decide (0 ≤ side) = true ∧ decide (side ≤ 1) = true ∧ (∀ w, WrRow w A0 fs → Calls Tryz.prog 67 #[.slice A0 n0 c0, .int .i64 leaf, .int .i64 bit, .int .i64 side] w fun e w' => e = .returned (.bool (!false)) ∧ Below w.heap.size w w') ∧ rb = decide (publicOf v = publicOf (secretOf seed leaf bit side))) := fun h3 => by
    have e3 : rb = (decide (leaf = xl) && (decide (0 ≤ bit) && (decide (bit < (b : Int)) && ((decide (0 ≤ side) && decide (side ≤ 1)) && (!shownW fs leaf bit.toNat side && decide (publicOf v = publicOf (secretOf seed leaf bit side))))))) := by rw [hhb]; unfold holdsB; rw [if_neg (by omega), if_neg (by omega), if_pos h3]
    clear E1 E2 E4 hhb
    by_cases hl : leaf = xl
    · have q1 : (leaf == xl) = true := by simpa using hl
      rw [decide_eq_true hl, Bool.true_and] at e3
      by_cases hb0 : 0 ≤ bit
      · have q2 : decide (0 ≤ bit) = true := decide_eq_true hb0
        rw [q2, Bool.true_and] at e3
        by_cases hb1 : bit < (b : Int)
        · have q3 : decide (bit < (b : Int)) = true := decide_eq_true hb1
          rw [q3, Bool.true_and] at e3
          by_cases hs0 : 0 ≤ side
          · by_cases hs1 : side ≤ 1
            · rw [decide_eq_true hs0, decide_eq_true hs1, Bool.true_and, Bool.true_and] at e3
              obtain ⟨bn, rfl⟩ : ∃ bn : Nat, bit = (bn : Int) := ⟨bit.toNat, by omega⟩
              rw [Int.toNat_natCast] at e3
              have hch := fun w (hq : WrRow w A0 fs) => refHidden9 A0 n0 c0 fs leaf side bn (by omega) w hq hn0 f32
              cases hsh : shownW fs leaf bn side with
              | true =>
                rw [hsh] at hch e3
                exact .inr (.inr (.inr (.inr (.inr (.inl (⟨q1, q2, q3, decide_eq_true hs0, decide_eq_true hs1, hch, by rw [e3]; rfl⟩))))))
              | false =>
                rw [hsh] at hch e3
                exact .inr (.inr (.inr (.inr (.inr (.inr (⟨q1, q2, q3, decide_eq_true hs0, decide_eq_true hs1, hch, by rw [e3, Bool.not_false, Bool.true_and]⟩))))))
            · rw [decide_eq_false hs1, Bool.and_false, Bool.false_and] at e3
              exact .inr (.inr (.inr (.inr (.inl (⟨q1, q2, q3, decide_eq_true hs0, decide_eq_false hs1, e3⟩)))))
          · rw [decide_eq_false hs0, Bool.false_and, Bool.false_and] at e3
            exact .inr (.inr (.inr (.inl (⟨q1, q2, q3, decide_eq_false hs0, e3⟩))))
        · rw [decide_eq_false hb1, Bool.false_and] at e3
          exact .inr (.inr (.inl (⟨q1, q2, decide_eq_false hb1, e3⟩)))
      · rw [decide_eq_false hb0, Bool.false_and] at e3
        exact .inr (.inl (⟨q1, decide_eq_false hb0, e3⟩))
    · rw [decide_eq_false hl, Bool.false_and] at e3
      exact .inl (⟨by simpa using hl, e3⟩)
  rw [← hhb]
  clear hhb
  have H0 := hid h0
  have HS := hid hs
  have HV := hid hv
  have HKT := hid hkt
  have HHO := hid (fun w q => refHonest9 b hb256 A0 n0 c0 fs sum hs xl w q hn0 f32)
  have HU1 := hid (fun w => refSum sa hsa w)
  have HU2 := hid (fun w => refSum sc hsc w)
  have HPV := hid (fun w => refPublic v hv w)
  have HSC := hid (fun w => refSecret seed leaf bit side hsd w)
  have HPS := hid (fun w => refPublic (secretOf seed leaf bit side) (secretOf_length _ _ _ _) w)
  have hq1 := fun w => id_eql_dec (shaOf sa) (shaOf sc) (shaOf_length _) (shaOf_length _) w
  have hq2 := id_guard .eql (shaOf sa) (shaOf sc)
  have hq3 := fun w => id_eql_dec (publicOf v) (publicOf (secretOf seed leaf bit side)) (publicOf_length _) (publicOf_length _) w
  have hq4 := id_guard .eql (publicOf v) (publicOf (secretOf seed leaf bit side))
  have HE3 := hid E3
  have HE2 := hid E2
  clear E3 E2 h0 hs hv hkt hn0 f32
  generalize publicOf v = pv at *
  generalize secretOf seed leaf bit side = sec at *
  generalize publicOf sec = pc at *
  generalize shaOf sa = ya at *
  generalize shaOf sc = yc at *
  go_enter Tryz.func36, Tryz.ntmps36
  have HB := hid (grow_refl w)
  apply wp_seq_k; intro _ _; apply wp_region_lit
  refine op_boxC (cs := #[.int .i64 (b : Int), .int .i64 (h : Int)]) rfl rfl rfl rfl ?_
  intro gp w1 hgl hgu hb hr
  have PL := hid (Nat.le_trans HB.out.size hgl)
  replace HB := hid (Grow.trans HB.out hb)
  replace H0 := hid (H0.out.grow hb)
  have P := hid hr; have PU := hid hgu
  clear hr hgl hgu hb
  try simp only [Act.put, List.setIfInBounds_toArray, List.set_cons_zero, List.set_cons_succ]
  refine op_box (l := sum) rfl rfl rfl ?_
  intro gs w2 hgl hgu hb hr
  have XL := hid (Nat.le_trans HB.out.size hgl)
  replace HB := hid (Grow.trans HB.out hb)
  replace H0 := hid (H0.out.grow hb)
  replace P := hid (grow_block P.out hb)
  have X := hid hr; have XU := hid hgu
  clear hr hgl hgu hb
  try simp only [Act.put, List.setIfInBounds_toArray, List.set_cons_zero, List.set_cons_succ]
  refine op_boxC (cs := #[.int .i64 xl, .slice A n c, .slice B m d, .slice C q e]) rfl rfl rfl rfl ?_
  intro gx w3 hgl hgu hb hr
  have GL := hid (Nat.le_trans HB.out.size hgl)
  replace HB := hid (Grow.trans HB.out hb)
  replace H0 := hid (H0.out.grow hb)
  replace P := hid (grow_block P.out hb)
  replace X := hid (grow_block X.out hb)
  have G := hid hr; have GU := hid hgu
  clear hr hgl hgu hb
  try simp only [Act.put, List.setIfInBounds_toArray, List.set_cons_zero, List.set_cons_succ]
  refine op_boxC (cs := (witC k sa sc leaf bit side v).toArray) rfl rfl rfl rfl ?_
  intro gw w4 hgl hgu hb hr
  have WL := hid (Nat.le_trans HB.out.size hgl)
  replace HB := hid (Grow.trans HB.out hb)
  replace H0 := hid (H0.out.grow hb)
  replace P := hid (grow_block P.out hb)
  replace X := hid (grow_block X.out hb)
  replace G := hid (grow_block G.out hb)
  have W := hid hr; have WU := hid hgu
  clear hr hgl hgu hb
  try simp only [Act.put, List.setIfInBounds_toArray, List.set_cons_zero, List.set_cons_succ]
  by_cases k1 : k = 1
  · have t1 : (k == 1) = true := by simpa using k1
    obtain rfl := E1 k1
    clear E1 E4 k1
    go_wp2_with (first | (refine opG_load1 (i := 0) (v := .int .i64 k) rfl rfl rfl W.out rfl Tryz.underlying3 rfl ?_) | (refine opG_loadB rfl rfl rfl P.out Tryz.underlying54 rfl rfl ?_) | (refine opG_load1 rfl rfl rfl P.out rfl Tryz.underlying3 rfl ?_) | (refine opG_load1 rfl rfl rfl G.out rfl Tryz.underlying3 rfl ?_) | (refine opG_load1 rfl rfl rfl G.out rfl Tryz.underlying56 rfl ?_) | (refine op_loadId rfl rfl rfl X.out (HS.out) ?_) |  fail)
    refine (HHO.out _ H0.out).mono ?_
    rintro e w5 ⟨rfl, hb⟩
    replace HB := hid (Grow.trans HB.out hb)
    replace H0 := hid (H0.out.grow hb)
    replace P := hid (grow_block P.out hb)
    replace X := hid (grow_block X.out hb)
    replace G := hid (grow_block G.out hb)
    replace W := hid (grow_block W.out hb)
    clear hb
    go_wp2_with fail
    go_ret
    exact ⟨rfl, HB.out⟩
  have t1 : (k == 1) = false := by simpa using k1
  by_cases k3 : k = 3
  · have t2 : (k == 2) = false := by rw [k3]; rfl
    have t3 : (k == 3) = true := by simpa using k3
    have E3 := HE3.out k3
    clear HE3 HE2 E1 E4 k1 k3
    have HE3 := hid E3
    clear E3
    go_wp2_with (first | (refine opG_load1 (i := 0) (v := .int .i64 k) rfl rfl rfl W.out rfl Tryz.underlying3 rfl ?_) | (refine opG_loadB rfl rfl rfl P.out Tryz.underlying54 rfl rfl ?_) | (refine opG_load1 rfl rfl rfl P.out rfl Tryz.underlying3 rfl ?_) | (refine opG_load1 rfl rfl rfl G.out rfl Tryz.underlying3 rfl ?_) | (refine opG_load1 rfl rfl rfl G.out rfl Tryz.underlying56 rfl ?_) | (refine op_loadId rfl rfl rfl X.out (HS.out) ?_) |  fail)
    rcases HE3.out with ⟨q0, rfl⟩ | ⟨q0, q1, rfl⟩ | ⟨q0, q1, q2, rfl⟩ | ⟨q0, q1, q2, q3, rfl⟩ | ⟨q0, q1, q2, q3, q4, rfl⟩ | ⟨q0, q1, q2, q3, q4, hch, rfl⟩ | ⟨q0, q1, q2, q3, q4, hch, rfl⟩
    · (refine' wp_region_head 53 0 [_, _, _, _, _, _, _, _, _, _, _, _, _, _, _, _, _, _, _, _, _, _, _, _, _, _, _, _, _, _, _, _, _, _, _, _, _, _, _, _, _, _, _, _, _, _, _, _, _, _, _, _, _] rfl (by kernel_rfl) (by kernel_rfl) ?hreg1; case' hreg1 => simp only [List.take_succ_cons, List.take_zero, List.zip_cons_cons, List.zip_nil_right, List.drop_succ_cons, List.drop_zero, List.drop_nil])
      repeat first
        | (refine' head_skip (V := fun _ _ => True) ?_ ?_ ?_; (· rfl); (· exact fun _ _ _ => trivial); simp only [Act.put, List.setIfInBounds_toArray, List.set_cons_zero, List.set_cons_succ])
        | (refine' head_val ?_ ?_ ?_ ?_; rotate_left; (· rfl); (· first | exact fun _ _ _ => trivial | (intro t ht w; cases ht; simp [upE])); (· intro w' hw' _; go_simp; with_reducible rfl); simp only [Act.put, List.setIfInBounds_toArray, List.set_cons_zero, List.set_cons_succ])
        | skip
          (refine' head_load1 (i := 3) (v := (.int .i64 leaf)) rfl ?_ rfl rfl W.out rfl Tryz.underlying3 rfl ?_; (first | exact fun _ _ _ => trivial | (intro t ht w; cases ht; simp [upE])); try simp only [Act.put, List.setIfInBounds_toArray, List.set_cons_zero, List.set_cons_succ])
        | skip
          (refine' head_load1 (i := 0) (v := (.int .i64 xl)) rfl ?_ rfl rfl G.out rfl Tryz.underlying3 rfl ?_; (first | exact fun _ _ _ => trivial | (intro t ht w; cases ht; simp [upE])); try simp only [Act.put, List.setIfInBounds_toArray, List.set_cons_zero, List.set_cons_succ])
      (refine head_nil ?_; intro wz hbz _; have HBZ := hid (Grow.trans HB.out hbz); refine wpList_nil ?_; go_wp2_with fail; go_ret; exact ⟨rfl, HBZ.out⟩)
    · (refine' wp_region_head 53 0 [_, _, _, _, _, _, _, _, _, _, _, _, _, _, _, _, _, _, _, _, _, _, _, _, _, _, _, _, _, _, _, _, _, _, _, _, _, _, _, _, _, _, _, _, _, _, _, _, _, _, _, _, _] rfl (by kernel_rfl) (by kernel_rfl) ?hreg2; case' hreg2 => simp only [List.take_succ_cons, List.take_zero, List.zip_cons_cons, List.zip_nil_right, List.drop_succ_cons, List.drop_zero, List.drop_nil])
      repeat first
        | (refine' head_skip (V := fun _ _ => True) ?_ ?_ ?_; (· rfl); (· exact fun _ _ _ => trivial); simp only [Act.put, List.setIfInBounds_toArray, List.set_cons_zero, List.set_cons_succ])
        | (refine' head_val ?_ ?_ ?_ ?_; rotate_left; (· rfl); (· first | exact fun _ _ _ => trivial | (intro t ht w; cases ht; simp [upE])); (· intro w' hw' _; go_simp; with_reducible rfl); simp only [Act.put, List.setIfInBounds_toArray, List.set_cons_zero, List.set_cons_succ])
        | skip
          (refine' head_load1 (i := 3) (v := (.int .i64 leaf)) rfl ?_ rfl rfl W.out rfl Tryz.underlying3 rfl ?_; (first | exact fun _ _ _ => trivial | (intro t ht w; cases ht; simp [upE])); try simp only [Act.put, List.setIfInBounds_toArray, List.set_cons_zero, List.set_cons_succ])
        | skip
          (refine' head_load1 (i := 0) (v := (.int .i64 xl)) rfl ?_ rfl rfl G.out rfl Tryz.underlying3 rfl ?_; (first | exact fun _ _ _ => trivial | (intro t ht w; cases ht; simp [upE])); try simp only [Act.put, List.setIfInBounds_toArray, List.set_cons_zero, List.set_cons_succ])
        | skip
          (refine' head_load1 (i := 4) (v := (.int .i64 bit)) rfl ?_ rfl rfl W.out rfl Tryz.underlying3 rfl ?_; (first | exact fun _ _ _ => trivial | (intro t ht w; cases ht; simp [upE])); try simp only [Act.put, List.setIfInBounds_toArray, List.set_cons_zero, List.set_cons_succ])
      (refine head_nil ?_; intro wz hbz _; have HBZ := hid (Grow.trans HB.out hbz); refine wpList_nil ?_; go_wp2_with fail; go_ret; exact ⟨rfl, HBZ.out⟩)
    · (refine' wp_region_head 53 0 [_, _, _, _, _, _, _, _, _, _, _, _, _, _, _, _, _, _, _, _, _, _, _, _, _, _, _, _, _, _, _, _, _, _, _, _, _, _, _, _, _, _, _, _, _, _, _, _, _, _, _, _, _] rfl (by kernel_rfl) (by kernel_rfl) ?hreg3; case' hreg3 => simp only [List.take_succ_cons, List.take_zero, List.zip_cons_cons, List.zip_nil_right, List.drop_succ_cons, List.drop_zero, List.drop_nil])
      repeat first
        | (refine' head_skip (V := fun _ _ => True) ?_ ?_ ?_; (· rfl); (· exact fun _ _ _ => trivial); simp only [Act.put, List.setIfInBounds_toArray, List.set_cons_zero, List.set_cons_succ])
        | (refine' head_val ?_ ?_ ?_ ?_; rotate_left; (· rfl); (· first | exact fun _ _ _ => trivial | (intro t ht w; cases ht; simp [upE])); (· intro w' hw' _; go_simp; with_reducible rfl); simp only [Act.put, List.setIfInBounds_toArray, List.set_cons_zero, List.set_cons_succ])
        | skip
          (refine' head_load1 (i := 3) (v := (.int .i64 leaf)) rfl ?_ rfl rfl W.out rfl Tryz.underlying3 rfl ?_; (first | exact fun _ _ _ => trivial | (intro t ht w; cases ht; simp [upE])); try simp only [Act.put, List.setIfInBounds_toArray, List.set_cons_zero, List.set_cons_succ])
        | skip
          (refine' head_load1 (i := 0) (v := (.int .i64 xl)) rfl ?_ rfl rfl G.out rfl Tryz.underlying3 rfl ?_; (first | exact fun _ _ _ => trivial | (intro t ht w; cases ht; simp [upE])); try simp only [Act.put, List.setIfInBounds_toArray, List.set_cons_zero, List.set_cons_succ])
        | skip
          (refine' head_load1 (i := 4) (v := (.int .i64 bit)) rfl ?_ rfl rfl W.out rfl Tryz.underlying3 rfl ?_; (first | exact fun _ _ _ => trivial | (intro t ht w; cases ht; simp [upE])); try simp only [Act.put, List.setIfInBounds_toArray, List.set_cons_zero, List.set_cons_succ])
        | skip
          (refine' head_load1 (i := 0) (v := (.int .i64 (b : Int))) rfl ?_ rfl rfl P.out rfl Tryz.underlying3 rfl ?_; (first | exact fun _ _ _ => trivial | (intro t ht w; cases ht; simp [upE])); try simp only [Act.put, List.setIfInBounds_toArray, List.set_cons_zero, List.set_cons_succ])
      (refine head_nil ?_; intro wz hbz _; have HBZ := hid (Grow.trans HB.out hbz); refine wpList_nil ?_; go_wp2_with fail; go_ret; exact ⟨rfl, HBZ.out⟩)
    · (refine' wp_region_head 53 0 [_, _, _, _, _, _, _, _, _, _, _, _, _, _, _, _, _, _, _, _, _, _, _, _, _, _, _, _, _, _, _, _, _, _, _, _, _, _, _, _, _, _, _, _, _, _, _, _, _, _, _, _, _] rfl (by kernel_rfl) (by kernel_rfl) ?hreg4; case' hreg4 => simp only [List.take_succ_cons, List.take_zero, List.zip_cons_cons, List.zip_nil_right, List.drop_succ_cons, List.drop_zero, List.drop_nil])
      repeat first
        | (refine' head_skip (V := fun _ _ => True) ?_ ?_ ?_; (· rfl); (· exact fun _ _ _ => trivial); simp only [Act.put, List.setIfInBounds_toArray, List.set_cons_zero, List.set_cons_succ])
        | (refine' head_val ?_ ?_ ?_ ?_; rotate_left; (· rfl); (· first | exact fun _ _ _ => trivial | (intro t ht w; cases ht; simp [upE])); (· intro w' hw' _; go_simp; with_reducible rfl); simp only [Act.put, List.setIfInBounds_toArray, List.set_cons_zero, List.set_cons_succ])
        | skip
          (refine' head_load1 (i := 3) (v := (.int .i64 leaf)) rfl ?_ rfl rfl W.out rfl Tryz.underlying3 rfl ?_; (first | exact fun _ _ _ => trivial | (intro t ht w; cases ht; simp [upE])); try simp only [Act.put, List.setIfInBounds_toArray, List.set_cons_zero, List.set_cons_succ])
        | skip
          (refine' head_load1 (i := 0) (v := (.int .i64 xl)) rfl ?_ rfl rfl G.out rfl Tryz.underlying3 rfl ?_; (first | exact fun _ _ _ => trivial | (intro t ht w; cases ht; simp [upE])); try simp only [Act.put, List.setIfInBounds_toArray, List.set_cons_zero, List.set_cons_succ])
        | skip
          (refine' head_load1 (i := 4) (v := (.int .i64 bit)) rfl ?_ rfl rfl W.out rfl Tryz.underlying3 rfl ?_; (first | exact fun _ _ _ => trivial | (intro t ht w; cases ht; simp [upE])); try simp only [Act.put, List.setIfInBounds_toArray, List.set_cons_zero, List.set_cons_succ])
        | skip
          (refine' head_load1 (i := 0) (v := (.int .i64 (b : Int))) rfl ?_ rfl rfl P.out rfl Tryz.underlying3 rfl ?_; (first | exact fun _ _ _ => trivial | (intro t ht w; cases ht; simp [upE])); try simp only [Act.put, List.setIfInBounds_toArray, List.set_cons_zero, List.set_cons_succ])
        | skip
          (refine' head_load1 (i := 5) (v := (.int .i64 side)) rfl ?_ rfl rfl W.out rfl Tryz.underlying3 rfl ?_; (first | exact fun _ _ _ => trivial | (intro t ht w; cases ht; simp [upE])); try simp only [Act.put, List.setIfInBounds_toArray, List.set_cons_zero, List.set_cons_succ])
      (refine head_nil ?_; intro wz hbz _; have HBZ := hid (Grow.trans HB.out hbz); refine wpList_nil ?_; go_wp2_with fail; go_ret; exact ⟨rfl, HBZ.out⟩)
    · (refine' wp_region_head 53 0 [_, _, _, _, _, _, _, _, _, _, _, _, _, _, _, _, _, _, _, _, _, _, _, _, _, _, _, _, _, _, _, _, _, _, _, _, _, _, _, _, _, _, _, _, _, _, _, _, _, _, _, _, _] rfl (by kernel_rfl) (by kernel_rfl) ?hreg5; case' hreg5 => simp only [List.take_succ_cons, List.take_zero, List.zip_cons_cons, List.zip_nil_right, List.drop_succ_cons, List.drop_zero, List.drop_nil])
      repeat first
        | (refine' head_skip (V := fun _ _ => True) ?_ ?_ ?_; (· rfl); (· exact fun _ _ _ => trivial); simp only [Act.put, List.setIfInBounds_toArray, List.set_cons_zero, List.set_cons_succ])
        | (refine' head_val ?_ ?_ ?_ ?_; rotate_left; (· rfl); (· first | exact fun _ _ _ => trivial | (intro t ht w; cases ht; simp [upE])); (· intro w' hw' _; go_simp; with_reducible rfl); simp only [Act.put, List.setIfInBounds_toArray, List.set_cons_zero, List.set_cons_succ])
        | skip
          (refine' head_load1 (i := 3) (v := (.int .i64 leaf)) rfl ?_ rfl rfl W.out rfl Tryz.underlying3 rfl ?_; (first | exact fun _ _ _ => trivial | (intro t ht w; cases ht; simp [upE])); try simp only [Act.put, List.setIfInBounds_toArray, List.set_cons_zero, List.set_cons_succ])
        | skip
          (refine' head_load1 (i := 0) (v := (.int .i64 xl)) rfl ?_ rfl rfl G.out rfl Tryz.underlying3 rfl ?_; (first | exact fun _ _ _ => trivial | (intro t ht w; cases ht; simp [upE])); try simp only [Act.put, List.setIfInBounds_toArray, List.set_cons_zero, List.set_cons_succ])
        | skip
          (refine' head_load1 (i := 4) (v := (.int .i64 bit)) rfl ?_ rfl rfl W.out rfl Tryz.underlying3 rfl ?_; (first | exact fun _ _ _ => trivial | (intro t ht w; cases ht; simp [upE])); try simp only [Act.put, List.setIfInBounds_toArray, List.set_cons_zero, List.set_cons_succ])
        | skip
          (refine' head_load1 (i := 0) (v := (.int .i64 (b : Int))) rfl ?_ rfl rfl P.out rfl Tryz.underlying3 rfl ?_; (first | exact fun _ _ _ => trivial | (intro t ht w; cases ht; simp [upE])); try simp only [Act.put, List.setIfInBounds_toArray, List.set_cons_zero, List.set_cons_succ])
        | skip
          (refine' head_load1 (i := 5) (v := (.int .i64 side)) rfl ?_ rfl rfl W.out rfl Tryz.underlying3 rfl ?_; (first | exact fun _ _ _ => trivial | (intro t ht w; cases ht; simp [upE])); try simp only [Act.put, List.setIfInBounds_toArray, List.set_cons_zero, List.set_cons_succ])
      (refine head_nil ?_; intro wz hbz _; have HBZ := hid (Grow.trans HB.out hbz); refine wpList_nil ?_; go_wp2_with fail; go_ret; exact ⟨rfl, HBZ.out⟩)
    · (refine' wp_region_head 53 0 [_, _, _, _, _, _, _, _, _, _, _, _, _, _, _, _, _, _, _, _, _, _, _, _, _, _, _, _, _, _, _, _, _, _, _, _, _, _, _, _, _, _, _, _, _, _, _, _, _, _, _, _, _] rfl (by kernel_rfl) (by kernel_rfl) ?hreg6; case' hreg6 => simp only [List.take_succ_cons, List.take_zero, List.zip_cons_cons, List.zip_nil_right, List.drop_succ_cons, List.drop_zero, List.drop_nil])
      repeat first
        | (refine' head_skip (V := fun _ _ => True) ?_ ?_ ?_; (· rfl); (· exact fun _ _ _ => trivial); simp only [Act.put, List.setIfInBounds_toArray, List.set_cons_zero, List.set_cons_succ])
        | (refine' head_val ?_ ?_ ?_ ?_; rotate_left; (· rfl); (· first | exact fun _ _ _ => trivial | (intro t ht w; cases ht; simp [upE])); (· intro w' hw' _; go_simp; with_reducible rfl); simp only [Act.put, List.setIfInBounds_toArray, List.set_cons_zero, List.set_cons_succ])
        | skip
          (refine' head_load1 (i := 3) (v := (.int .i64 leaf)) rfl ?_ rfl rfl W.out rfl Tryz.underlying3 rfl ?_; (first | exact fun _ _ _ => trivial | (intro t ht w; cases ht; simp [upE])); try simp only [Act.put, List.setIfInBounds_toArray, List.set_cons_zero, List.set_cons_succ])
        | skip
          (refine' head_load1 (i := 0) (v := (.int .i64 xl)) rfl ?_ rfl rfl G.out rfl Tryz.underlying3 rfl ?_; (first | exact fun _ _ _ => trivial | (intro t ht w; cases ht; simp [upE])); try simp only [Act.put, List.setIfInBounds_toArray, List.set_cons_zero, List.set_cons_succ])
        | skip
          (refine' head_load1 (i := 4) (v := (.int .i64 bit)) rfl ?_ rfl rfl W.out rfl Tryz.underlying3 rfl ?_; (first | exact fun _ _ _ => trivial | (intro t ht w; cases ht; simp [upE])); try simp only [Act.put, List.setIfInBounds_toArray, List.set_cons_zero, List.set_cons_succ])
        | skip
          (refine' head_load1 (i := 0) (v := (.int .i64 (b : Int))) rfl ?_ rfl rfl P.out rfl Tryz.underlying3 rfl ?_; (first | exact fun _ _ _ => trivial | (intro t ht w; cases ht; simp [upE])); try simp only [Act.put, List.setIfInBounds_toArray, List.set_cons_zero, List.set_cons_succ])
        | skip
          (refine' head_load1 (i := 5) (v := (.int .i64 side)) rfl ?_ rfl rfl W.out rfl Tryz.underlying3 rfl ?_; (first | exact fun _ _ _ => trivial | (intro t ht w; cases ht; simp [upE])); try simp only [Act.put, List.setIfInBounds_toArray, List.set_cons_zero, List.set_cons_succ])
        | skip
          (refine' head_call ?cw7 ?ce7 ?cr7 ?cc7 ?ch7; (case' cw7 => rfl); (case' ce7 => (first | exact fun _ _ _ => trivial | (intro t ht w; cases ht; simp [upE]))); (case' cr7 => (intro w'; go_simp; first | exact ⟨rfl, rfl⟩ | with_reducible rfl)); (case' cc7 => (intro w' hw' _; exact hch w' (H0.out.grow hw'))); (case' ch7 => (try simp only [Act.put, List.setIfInBounds_toArray, List.set_cons_zero, List.set_cons_succ])))
      (refine head_nil ?_; intro wz hbz _; have HBZ := hid (Grow.trans HB.out hbz); refine wpList_nil ?_; go_wp2_with fail; go_ret; exact ⟨rfl, HBZ.out⟩)
    · (refine' wp_region_head 53 0 [_, _, _, _, _, _, _, _, _, _, _, _, _, _, _, _, _, _, _, _, _, _, _, _, _, _, _, _, _, _, _, _, _, _, _, _, _, _, _, _, _, _, _, _, _, _, _, _, _, _, _, _, _] rfl (by kernel_rfl) (by kernel_rfl) ?hreg8; case' hreg8 => simp only [List.take_succ_cons, List.take_zero, List.zip_cons_cons, List.zip_nil_right, List.drop_succ_cons, List.drop_zero, List.drop_nil])
      repeat first
        | (refine' head_skip (V := fun _ _ => True) ?_ ?_ ?_; (· rfl); (· exact fun _ _ _ => trivial); simp only [Act.put, List.setIfInBounds_toArray, List.set_cons_zero, List.set_cons_succ])
        | (refine' head_val ?_ ?_ ?_ ?_; rotate_left; (· rfl); (· first | exact fun _ _ _ => trivial | (intro t ht w; cases ht; simp [upE])); (· intro w' hw' _; go_simp; with_reducible rfl); simp only [Act.put, List.setIfInBounds_toArray, List.set_cons_zero, List.set_cons_succ])
        | skip
          (refine' head_load1 (i := 3) (v := (.int .i64 leaf)) rfl ?_ rfl rfl W.out rfl Tryz.underlying3 rfl ?_; (first | exact fun _ _ _ => trivial | (intro t ht w; cases ht; simp [upE])); try simp only [Act.put, List.setIfInBounds_toArray, List.set_cons_zero, List.set_cons_succ])
        | skip
          (refine' head_load1 (i := 0) (v := (.int .i64 xl)) rfl ?_ rfl rfl G.out rfl Tryz.underlying3 rfl ?_; (first | exact fun _ _ _ => trivial | (intro t ht w; cases ht; simp [upE])); try simp only [Act.put, List.setIfInBounds_toArray, List.set_cons_zero, List.set_cons_succ])
        | skip
          (refine' head_load1 (i := 4) (v := (.int .i64 bit)) rfl ?_ rfl rfl W.out rfl Tryz.underlying3 rfl ?_; (first | exact fun _ _ _ => trivial | (intro t ht w; cases ht; simp [upE])); try simp only [Act.put, List.setIfInBounds_toArray, List.set_cons_zero, List.set_cons_succ])
        | skip
          (refine' head_load1 (i := 0) (v := (.int .i64 (b : Int))) rfl ?_ rfl rfl P.out rfl Tryz.underlying3 rfl ?_; (first | exact fun _ _ _ => trivial | (intro t ht w; cases ht; simp [upE])); try simp only [Act.put, List.setIfInBounds_toArray, List.set_cons_zero, List.set_cons_succ])
        | skip
          (refine' head_load1 (i := 5) (v := (.int .i64 side)) rfl ?_ rfl rfl W.out rfl Tryz.underlying3 rfl ?_; (first | exact fun _ _ _ => trivial | (intro t ht w; cases ht; simp [upE])); try simp only [Act.put, List.setIfInBounds_toArray, List.set_cons_zero, List.set_cons_succ])
        | skip
          (refine' head_call ?cw9 ?ce9 ?cr9 ?cc9 ?ch9; (case' cw9 => rfl); (case' ce9 => (first | exact fun _ _ _ => trivial | (intro t ht w; cases ht; simp [upE]))); (case' cr9 => (intro w'; go_simp; first | exact ⟨rfl, rfl⟩ | with_reducible rfl)); (case' cc9 => (intro w' hw' _; exact hch w' (H0.out.grow hw'))); (case' ch9 => (try simp only [Act.put, List.setIfInBounds_toArray, List.set_cons_zero, List.set_cons_succ])))
        | skip
          (refine' head_loadAt (x := _) rfl ?_ rfl rfl (wit_val_cells W.out) (HV.out) ?_; (first | exact fun _ _ _ => trivial | (intro t ht w; cases ht; simp [upE])); try simp only [Act.put, List.setIfInBounds_toArray, List.set_cons_zero, List.set_cons_succ])
        | skip
          (refine' head_call ?cw10 ?ce10 ?cr10 ?cc10 ?ch10; (case' cw10 => rfl); (case' ce10 => (first | exact fun _ _ _ => trivial | (intro t ht w; cases ht; simp [upE]))); (case' cr10 => (intro w'; go_simp; first | exact ⟨rfl, rfl⟩ | with_reducible rfl)); (case' cc10 => (intro w' hw' _; exact HPV.out w')); (case' ch10 => (try simp only [Act.put, List.setIfInBounds_toArray, List.set_cons_zero, List.set_cons_succ])))
        | skip
          (refine' head_call ?cw11 ?ce11 ?cr11 ?cc11 ?ch11; (case' cw11 => rfl); (case' ce11 => (first | exact fun _ _ _ => trivial | (intro t ht w; cases ht; simp [upE]))); (case' cr11 => (intro w'; go_simp; first | exact ⟨rfl, rfl⟩ | with_reducible rfl)); (case' cc11 => (intro w' hw' _; exact HSC.out w')); (case' ch11 => (try simp only [Act.put, List.setIfInBounds_toArray, List.set_cons_zero, List.set_cons_succ])))
        | skip
          (refine' head_call ?cw12 ?ce12 ?cr12 ?cc12 ?ch12; (case' cw12 => rfl); (case' ce12 => (first | exact fun _ _ _ => trivial | (intro t ht w; cases ht; simp [upE]))); (case' cr12 => (intro w'; go_simp; first | exact ⟨rfl, rfl⟩ | with_reducible rfl)); (case' cc12 => (intro w' hw' _; exact HPS.out w')); (case' ch12 => (try simp only [Act.put, List.setIfInBounds_toArray, List.set_cons_zero, List.set_cons_succ])))
      (refine head_nil ?_; intro wz hbz _; have HBZ := hid (Grow.trans HB.out hbz); refine wpList_nil ?_; go_wp2_with fail; go_ret; exact ⟨rfl, HBZ.out⟩)
  have t3 : (k == 3) = false := by simpa using k3
  by_cases k2 : k = 2
  · have t2 : (k == 2) = true := by simpa using k2
    have E2 := HE2.out k2
    clear HE3 HE2 E1 E4 k1 k2 k3
    have HE2 := hid E2
    clear E2
    go_wp2_with (first | (refine opG_load1 (i := 0) (v := .int .i64 k) rfl rfl rfl W.out rfl Tryz.underlying3 rfl ?_) | (refine opG_loadB rfl rfl rfl P.out Tryz.underlying54 rfl rfl ?_) | (refine opG_load1 rfl rfl rfl P.out rfl Tryz.underlying3 rfl ?_) | (refine opG_load1 rfl rfl rfl G.out rfl Tryz.underlying3 rfl ?_) | (refine opG_load1 rfl rfl rfl G.out rfl Tryz.underlying56 rfl ?_) | (refine op_loadId rfl rfl rfl X.out (HS.out) ?_) |  fail)
    rcases HE2.out with ⟨q0, q1, rfl⟩ | ⟨q0, rfl⟩
    · (refine' wp_region_head 15 0 [_, _, _, _, _, _, _, _, _, _, _, _, _, _, _] rfl (by kernel_rfl) (by kernel_rfl) ?hreg13; case' hreg13 => simp only [List.take_succ_cons, List.take_zero, List.zip_cons_cons, List.zip_nil_right, List.drop_succ_cons, List.drop_zero, List.drop_nil])
      repeat first
        | (refine' head_skip (V := fun _ _ => True) ?_ ?_ ?_; (· rfl); (· exact fun _ _ _ => trivial); simp only [Act.put, List.setIfInBounds_toArray, List.set_cons_zero, List.set_cons_succ])
        | (refine' head_val ?_ ?_ ?_ ?_; rotate_left; (· rfl); (· first | exact fun _ _ _ => trivial | (intro t ht w; cases ht; simp [upE])); (· intro w' hw' _; go_simp; with_reducible rfl); simp only [Act.put, List.setIfInBounds_toArray, List.set_cons_zero, List.set_cons_succ])
        | skip
          (refine' head_load1 (i := 1) (v := (.string (bs sa))) rfl ?_ rfl rfl W.out rfl Tryz.underlying9 rfl ?_; (first | exact fun _ _ _ => trivial | (intro t ht w; cases ht; simp [upE])); try simp only [Act.put, List.setIfInBounds_toArray, List.set_cons_zero, List.set_cons_succ])
        | skip
          (refine' head_load1 (i := 2) (v := (.string (bs sc))) rfl ?_ rfl rfl W.out rfl Tryz.underlying9 rfl ?_; (first | exact fun _ _ _ => trivial | (intro t ht w; cases ht; simp [upE])); try simp only [Act.put, List.setIfInBounds_toArray, List.set_cons_zero, List.set_cons_succ])
      (refine head_nil ?_; intro wz hbz _; have HBZ := hid (Grow.trans HB.out hbz); refine wpList_nil ?_; go_wp2_with fail; go_ret; exact ⟨rfl, HBZ.out⟩)
    · (refine' wp_region_head 15 0 [_, _, _, _, _, _, _, _, _, _, _, _, _, _, _] rfl (by kernel_rfl) (by kernel_rfl) ?hreg14; case' hreg14 => simp only [List.take_succ_cons, List.take_zero, List.zip_cons_cons, List.zip_nil_right, List.drop_succ_cons, List.drop_zero, List.drop_nil])
      repeat first
        | (refine' head_skip (V := fun _ _ => True) ?_ ?_ ?_; (· rfl); (· exact fun _ _ _ => trivial); simp only [Act.put, List.setIfInBounds_toArray, List.set_cons_zero, List.set_cons_succ])
        | (refine' head_val ?_ ?_ ?_ ?_; rotate_left; (· rfl); (· first | exact fun _ _ _ => trivial | (intro t ht w; cases ht; simp [upE])); (· intro w' hw' _; go_simp; with_reducible rfl); simp only [Act.put, List.setIfInBounds_toArray, List.set_cons_zero, List.set_cons_succ])
        | skip
          (refine' head_load1 (i := 1) (v := (.string (bs sa))) rfl ?_ rfl rfl W.out rfl Tryz.underlying9 rfl ?_; (first | exact fun _ _ _ => trivial | (intro t ht w; cases ht; simp [upE])); try simp only [Act.put, List.setIfInBounds_toArray, List.set_cons_zero, List.set_cons_succ])
        | skip
          (refine' head_load1 (i := 2) (v := (.string (bs sc))) rfl ?_ rfl rfl W.out rfl Tryz.underlying9 rfl ?_; (first | exact fun _ _ _ => trivial | (intro t ht w; cases ht; simp [upE])); try simp only [Act.put, List.setIfInBounds_toArray, List.set_cons_zero, List.set_cons_succ])
        | skip
          (refine' head_call ?cw15 ?ce15 ?cr15 ?cc15 ?ch15; (case' cw15 => rfl); (case' ce15 => (first | exact fun _ _ _ => trivial | (intro t ht w; cases ht; simp [upE]))); (case' cr15 => (intro w'; go_simp; first | exact ⟨rfl, rfl⟩ | with_reducible rfl)); (case' cc15 => (intro w' hw' _; exact HU1.out w')); (case' ch15 => (try simp only [Act.put, List.setIfInBounds_toArray, List.set_cons_zero, List.set_cons_succ])))
        | skip
          (refine' head_call ?cw16 ?ce16 ?cr16 ?cc16 ?ch16; (case' cw16 => rfl); (case' ce16 => (first | exact fun _ _ _ => trivial | (intro t ht w; cases ht; simp [upE]))); (case' cr16 => (intro w'; go_simp; first | exact ⟨rfl, rfl⟩ | with_reducible rfl)); (case' cc16 => (intro w' hw' _; exact HU2.out w')); (case' ch16 => (try simp only [Act.put, List.setIfInBounds_toArray, List.set_cons_zero, List.set_cons_succ])))
      (refine head_nil ?_; intro wz hbz _; have HBZ := hid (Grow.trans HB.out hbz); refine wpList_nil ?_; go_wp2_with fail; go_ret; exact ⟨rfl, HBZ.out⟩)
  have t2 : (k == 2) = false := by simpa using k2
  obtain rfl := E4 k1 k2 k3
  clear E1 k1 k2 k3 HE2 HE3
  go_wp2_with (first | (refine opG_load1 (i := 0) (v := .int .i64 k) rfl rfl rfl W.out rfl Tryz.underlying3 rfl ?_) | (refine opG_loadB rfl rfl rfl P.out Tryz.underlying54 rfl rfl ?_) | (refine opG_load1 rfl rfl rfl P.out rfl Tryz.underlying3 rfl ?_) | (refine opG_load1 rfl rfl rfl G.out rfl Tryz.underlying3 rfl ?_) | (refine opG_load1 rfl rfl rfl G.out rfl Tryz.underlying56 rfl ?_) | (refine op_loadId rfl rfl rfl X.out (HS.out) ?_) |  fail)
  go_ret
  exact ⟨rfl, HB.out⟩
end Go.Proofs.YtabkaflccaklhaaGreat
