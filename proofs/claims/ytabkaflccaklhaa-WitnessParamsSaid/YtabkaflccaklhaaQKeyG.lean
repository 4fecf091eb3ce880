/- keytree.Of, Way: contracts. -/
import Derived.Test.YtabkaflccaklhaaQKeyF
set_option linter.unusedSimpArgs false
set_option linter.unusedVariables false
namespace Go.Proofs.Ytabkaflccaklhaa
open Go.RowKit
open Go.Qk hiding rotr b4
set_option maxHeartbeats 1000000
set_option maxRecDepth 100000
theorem ktOfC (seed : ByteArray) (hs : seed.size ≤ 1000000) (b h : Nat) (hk : ktB b h = true) (w : World) :
    Calls Try.prog 107 #[.agg #[.int .i64 (b : Int), .int .i64 (h : Int)], .string seed] w fun e w' => e = .returned (.tuple #[idV (ktOf seed b h), .int .i64 0]) ∧ Below w.heap.size w w' := by
  have LN := hid (nodeOf_length seed b h 0)
  have HK := hid hk
  have HRO := hid (fun w => ktRows seed hs b h hk w)
  have HKE := hid (fun w => ktKey b h (nodeOf seed b h 0) LN.out hk w)
  have LK := hid (ktOf_length seed b h)
  have HO := hid (show keyOf b h (nodeOf seed b h 0) = ktOf seed b h from rfl)
  rw [HO.out] at HKE
  generalize nodeOf seed b h 0 = root at *
  generalize ktOf seed b h = key at *
  clear hk HO
  go_enter Try.func107, Try.ntmps107
  have HB := hid (grow_refl w)
  apply wp_seq_k; intro _ _; apply wp_region_lit
  refine op_boxC (cs := #[.int .i64 (b : Int), .int .i64 (h : Int)]) rfl rfl rfl rfl ?_
  intro gp w1 hgl hgu hb hr
  have PL := hid (Nat.le_trans HB.out.size hgl)
  replace HB := hid (Grow.trans HB.out hb)
  have P := hid hr; have PU := hid hgu
  clear hr hgl hgu hb
  try simp only [Act.put, List.setIfInBounds_toArray, List.set_cons_zero, List.set_cons_succ]
  refine op_alloc rfl rfl ?_
  intro gr w2 hgl hgu hb hr
  have HRL := hid (Nat.le_trans HB.out.size hgl)
  replace HB := hid (Grow.trans HB.out hb)
  replace P := hid (grow_block P.out hb)
  have HR := hid hr; have HRU := hid hgu
  clear hr hgl hgu hb
  try simp only [Act.put, List.setIfInBounds_toArray, List.set_cons_zero, List.set_cons_succ]
  go_wp2_with (first | (refine opG_loadB rfl rfl rfl P.out Try.underlying92 rfl rfl ?_) | (refine opG_load1 rfl rfl rfl P.out rfl Try.underlying3 rfl ?_) |  fail)
  refine (ktRight b h _).mono ?_
  rintro e w3 ⟨rfl, hb⟩
  replace HB := hid (Grow.trans HB.out hb)
  replace P := hid (grow_block P.out hb)
  replace HR := hid (grow_block HR.out hb)
  clear hb
  rw [HK.out]
  go_wp2_with (first | (refine opG_loadB rfl rfl rfl P.out Try.underlying92 rfl rfl ?_) | (refine opG_load1 rfl rfl rfl P.out rfl Try.underlying3 rfl ?_) |  fail)
  refine (HRO.out _).mono ?_
  rintro e w7 ⟨v, rfl, _, hb⟩
  replace HB := hid (Grow.trans HB.out hb)
  replace P := hid (grow_block P.out hb)
  replace HR := hid (grow_block HR.out hb)
  clear hb
  go_wp2_with (first | (refine opG_loadB rfl rfl rfl P.out Try.underlying92 rfl rfl ?_) | (refine opG_load1 rfl rfl rfl P.out rfl Try.underlying3 rfl ?_) |  (refine op_allocstore (l := root) rfl rfl rfl rfl rfl rfl (fun _ => rfl) ⟨fun _ => rfl, LN.out⟩ ?_))
  intro g6 w4 hgl hgu hb hr
  have H6L := hid (Nat.le_trans HB.out.size hgl)
  replace HB := hid (Grow.trans HB.out hb)
  replace P := hid (grow_block P.out hb)
  replace HR := hid (grow_block HR.out hb)
  have H6 := hid hr; have H6U := hid hgu
  clear hr hgl hgu hb
  try simp only [Act.put, List.setIfInBounds_toArray, List.set_cons_zero, List.set_cons_succ]
  go_wp2_with (first | (refine opG_loadB rfl rfl rfl P.out Try.underlying92 rfl rfl ?_) | (refine opG_load1 rfl rfl rfl P.out rfl Try.underlying3 rfl ?_) | (refine op_loadId rfl rfl rfl H6.out (LN.out) ?_) |  fail)
  refine (HKE.out _).mono ?_
  rintro e w5 ⟨rfl, hb⟩
  replace HB := hid (Grow.trans HB.out hb)
  replace P := hid (grow_block P.out hb)
  replace HR := hid (grow_block HR.out hb)
  replace H6 := hid (grow_block H6.out hb)
  clear hb
  go_wp2_with (first | (refine opG_loadB rfl rfl rfl P.out Try.underlying92 rfl rfl ?_) | (refine opG_load1 rfl rfl rfl P.out rfl Try.underlying3 rfl ?_) | (refine op_loadId rfl rfl rfl H6.out (LN.out) ?_) |  (refine op_buildId rfl rfl ?_) | (refine op_storeId (l := key) rfl rfl rfl rfl rfl HR.out (by rfl) (LK.out) ?_))
  intro wz hz _ hbz
  have HZ := hid hz; have HBZ := hid (hbz _ _ HB.out HRL.out)
  clear hz hbz
  go_wp2_with fail
  refine bodyPost_ret (ret_idt rfl rfl HZ.out (LK.out)) rfl ⟨?_, HBZ.out⟩
  rfl
theorem ktOfC_bad (seed : ByteArray) (b h : Int) (hk : ktB b h = false) (w : World) :
    Calls Try.prog 107 #[.agg #[.int .i64 b, .int .i64 h], .string seed] w fun e w' => e = .returned (.tuple #[idV (zero8 32), .int .i64 1]) ∧ Below w.heap.size w w' := by
  have HK := hid hk
  clear hk
  go_enter Try.func107, Try.ntmps107
  have HB := hid (grow_refl w)
  apply wp_seq_k; intro _ _; apply wp_region_lit
  refine op_boxC (cs := #[.int .i64 b, .int .i64 h]) rfl rfl rfl rfl ?_
  intro gp w1 hgl hgu hb hr
  have PL := hid (Nat.le_trans HB.out.size hgl)
  replace HB := hid (Grow.trans HB.out hb)
  have P := hid hr; have PU := hid hgu
  clear hr hgl hgu hb
  try simp only [Act.put, List.setIfInBounds_toArray, List.set_cons_zero, List.set_cons_succ]
  refine op_alloc rfl rfl ?_
  intro gr w2 hgl hgu hb hr
  have HRL := hid (Nat.le_trans HB.out.size hgl)
  replace HB := hid (Grow.trans HB.out hb)
  replace P := hid (grow_block P.out hb)
  have HR := hid hr; have HRU := hid hgu
  clear hr hgl hgu hb
  try simp only [Act.put, List.setIfInBounds_toArray, List.set_cons_zero, List.set_cons_succ]
  go_wp2_with (first | (refine opG_loadB rfl rfl rfl P.out Try.underlying92 rfl rfl ?_) | (refine opG_load1 rfl rfl rfl P.out rfl Try.underlying3 rfl ?_) |  fail)
  refine (ktRight b h _).mono ?_
  rintro e w3 ⟨rfl, hb⟩
  replace HB := hid (Grow.trans HB.out hb)
  replace P := hid (grow_block P.out hb)
  replace HR := hid (grow_block HR.out hb)
  clear hb
  rw [HK.out]
  go_wp2_with (first | (refine opG_loadB rfl rfl rfl P.out Try.underlying92 rfl rfl ?_) | (refine opG_load1 rfl rfl rfl P.out rfl Try.underlying3 rfl ?_) |  (refine op_buildId rfl rfl ?_) | (refine op_storeId (l := zero8 32) rfl rfl rfl rfl rfl HR.out (by rfl) (rfl) ?_))
  intro wz hz _ hbz
  have HZ := hid hz; have HBZ := hid (hbz _ _ HB.out HRL.out)
  clear hz hbz
  go_wp2_with fail
  refine bodyPost_ret (ret_idt rfl rfl HZ.out (rfl)) rfl ⟨?_, HBZ.out⟩
  rfl
theorem xorF : ∀ m : Fin 1024, bits .xor .i64 ((m.val : Nat) : Int) 1 = ((beside m.val : Nat) : Int) := by decide +kernel
theorem xor_one (m : Nat) (h : m < 1024) : bits .xor .i64 (m : Int) 1 = ((beside m : Nat) : Int) := xorF ⟨m, h⟩
theorem rows_node (seed : ByteArray) (b h k s : Nat) (hk : k ≤ h) (hs : s < 2 ^ (h - k)) : (upN k (leafRow seed b (2 ^ h))).getD s [] = nodeOf seed b k s := by
  have e : (2 : Nat) ^ h = 2 ^ k * 2 ^ (h - k) := by rw [← Nat.pow_add]; congr 1; omega
  have e2 : leafRow seed b (2 ^ h) = (List.range (2 ^ k * 2 ^ (h - k))).map (nodeOf seed b 0) := by rw [← e]; rfl
  rw [e2, upN_node]
  simp [hs]
theorem ktWay_bad (seed : ByteArray) (b h leaf : Int) (hk : ktB b h = false) (w : World) :
    Calls Try.prog 133 #[.agg #[.int .i64 b, .int .i64 h], .string seed, .int .i64 leaf] w fun e w' => e = .returned (.tuple #[.slice none 0 0, .int .i64 1]) ∧ Below w.heap.size w w' := by
  have HK := hid hk
  clear hk
  go_enter Try.func133, Try.ntmps133
  have HB := hid (grow_refl w)
  apply wp_seq_k; intro _ _; apply wp_region_lit
  refine op_boxC (cs := #[.int .i64 b, .int .i64 h]) rfl rfl rfl rfl ?_
  intro gp w1 hgl hgu hb hr
  have PL := hid (Nat.le_trans HB.out.size hgl)
  replace HB := hid (Grow.trans HB.out hb)
  have P := hid hr; have PU := hid hgu
  clear hr hgl hgu hb
  try simp only [Act.put, List.setIfInBounds_toArray, List.set_cons_zero, List.set_cons_succ]
  go_wp2_with (first | (refine opG_loadB rfl rfl rfl P.out Try.underlying92 rfl rfl ?_) | (refine opG_load1 rfl rfl rfl P.out rfl Try.underlying3 rfl ?_) |  fail)
  refine (ktRight b h _).mono ?_
  rintro e w2 ⟨rfl, hb⟩
  replace HB := hid (Grow.trans HB.out hb)
  replace P := hid (grow_block P.out hb)
  clear hb
  rw [HK.out]
  go_wp2_with (first | (refine opG_loadB rfl rfl rfl P.out Try.underlying92 rfl rfl ?_) | (refine opG_load1 rfl rfl rfl P.out rfl Try.underlying3 rfl ?_) |  fail)
  go_ret2
  exact ⟨rfl, HB.out⟩
theorem ktWay_out (seed : ByteArray) (b h : Nat) (leaf : Int) (hk : ktB b h = true) (hl : leaf < 0 ∨ ((2 ^ h : Nat) : Int) ≤ leaf) (w : World) :
    Calls Try.prog 133 #[.agg #[.int .i64 (b : Int), .int .i64 (h : Int)], .string seed, .int .i64 leaf] w fun e w' => e = .returned (.tuple #[.slice none 0 0, .int .i64 5]) ∧ Below w.heap.size w w' := by
  have HK := hid hk
  have HLV := hid (fun w => ktLeaves b h (2 ^ h) (by rw [hk]; simp) w)
  generalize 2 ^ h = n at *
  clear hk
  by_cases h0 : leaf < 0
  · have t1 : decide (leaf < 0) = true := by simpa using h0
    clear hl
    go_enter Try.func133, Try.ntmps133
    have HB := hid (grow_refl w)
    apply wp_seq_k; intro _ _; apply wp_region_lit
    refine op_boxC (cs := #[.int .i64 (b : Int), .int .i64 (h : Int)]) rfl rfl rfl rfl ?_
    intro gp w1 hgl hgu hb hr
    have PL := hid (Nat.le_trans HB.out.size hgl)
    replace HB := hid (Grow.trans HB.out hb)
    have P := hid hr; have PU := hid hgu
    clear hr hgl hgu hb
    try simp only [Act.put, List.setIfInBounds_toArray, List.set_cons_zero, List.set_cons_succ]
    go_wp2_with (first | (refine opG_loadB rfl rfl rfl P.out Try.underlying92 rfl rfl ?_) | (refine opG_load1 rfl rfl rfl P.out rfl Try.underlying3 rfl ?_) |  fail)
    refine (ktRight b h _).mono ?_
    rintro e w2 ⟨rfl, hb⟩
    replace HB := hid (Grow.trans HB.out hb)
    replace P := hid (grow_block P.out hb)
    clear hb
    rw [HK.out]
    go_wp2_with (first | (refine opG_loadB rfl rfl rfl P.out Try.underlying92 rfl rfl ?_) | (refine opG_load1 rfl rfl rfl P.out rfl Try.underlying3 rfl ?_) |  fail)
    go_ret2
    exact ⟨rfl, HB.out⟩
  · have t1 : decide (leaf < 0) = false := by simpa using h0
    have t2 : decide ((n : Int) ≤ leaf) = true := by simp; omega
    clear hl
    go_enter Try.func133, Try.ntmps133
    have HB := hid (grow_refl w)
    apply wp_seq_k; intro _ _; apply wp_region_lit
    refine op_boxC (cs := #[.int .i64 (b : Int), .int .i64 (h : Int)]) rfl rfl rfl rfl ?_
    intro gp w3 hgl hgu hb hr
    have PL := hid (Nat.le_trans HB.out.size hgl)
    replace HB := hid (Grow.trans HB.out hb)
    have P := hid hr; have PU := hid hgu
    clear hr hgl hgu hb
    try simp only [Act.put, List.setIfInBounds_toArray, List.set_cons_zero, List.set_cons_succ]
    go_wp2_with (first | (refine opG_loadB rfl rfl rfl P.out Try.underlying92 rfl rfl ?_) | (refine opG_load1 rfl rfl rfl P.out rfl Try.underlying3 rfl ?_) | (refine opG_loadB rfl rfl rfl P.out Try.underlying92 rfl rfl ?_) | (refine opG_load1 rfl rfl rfl P.out rfl Try.underlying3 rfl ?_) |  fail)
    refine (ktRight b h _).mono ?_
    rintro e w4 ⟨rfl, hb⟩
    replace HB := hid (Grow.trans HB.out hb)
    replace P := hid (grow_block P.out hb)
    clear hb
    rw [HK.out]
    go_wp2_with (first | (refine opG_loadB rfl rfl rfl P.out Try.underlying92 rfl rfl ?_) | (refine opG_load1 rfl rfl rfl P.out rfl Try.underlying3 rfl ?_) | (refine opG_loadB rfl rfl rfl P.out Try.underlying92 rfl rfl ?_) | (refine opG_load1 rfl rfl rfl P.out rfl Try.underlying3 rfl ?_) |  fail)
    refine (HLV.out _).mono ?_
    rintro e w5 ⟨rfl, hb⟩
    replace HB := hid (Grow.trans HB.out hb)
    replace P := hid (grow_block P.out hb)
    clear hb
    go_wp2_with (first | (refine opG_loadB rfl rfl rfl P.out Try.underlying92 rfl rfl ?_) | (refine opG_load1 rfl rfl rfl P.out rfl Try.underlying3 rfl ?_) | (refine opG_loadB rfl rfl rfl P.out Try.underlying92 rfl rfl ?_) | (refine opG_load1 rfl rfl rfl P.out rfl Try.underlying3 rfl ?_) |  fail)
    go_ret2
    exact ⟨rfl, HB.out⟩
theorem ktWay (seed : ByteArray) (hs : seed.size ≤ 1000000) (b h : Nat) (leaf : Nat) (hk : ktB b h = true) (hl : leaf < 2 ^ h) (w : World) :
    Calls Try.prog 133 #[.agg #[.int .i64 (b : Int), .int .i64 (h : Int)], .string seed, .int .i64 (leaf : Int)] w (RetIdsE w.heap.size w (wayOf seed b h leaf) 0) := by
  obtain ⟨b1, b2, b3, b4⟩ := kt_bounds hk
  have hpw : 2 ^ h ≤ 2 ^ 10 := Nat.pow_le_pow_right (by omega) (by omega)
  have HK := hid hk
  have HLV := hid (fun w => ktLeaves b h (2 ^ h) (by rw [hk]; simp) w)
  have HRO := hid (fun w => ktRows seed hs b h hk w)
  have HRN := hid (fun k s (h1 : k ≤ h) (h2 : s < 2 ^ (h - k)) => rows_node seed b h k s h1 h2)
  have HR32 := hid (fun k => upN_32 k (leafRow seed b (2 ^ h)) (leafRow_32 _ _ _))
  have HRL := hid (fun k (h1 : k ≤ h) => upN_length k (h - k) (leafRow seed b (2 ^ h)) (by rw [leafRow_length, show h - k + k = h by omega]))
  have HFG := hid (fun k (h1 : k ≤ h) => foldRows_get h (leafRow seed b (2 ^ h)) k h1)
  have HFL := hid (foldRows_length h (leafRow seed b (2 ^ h)))
  have HLH := hid hl
  generalize leafRow seed b (2 ^ h) = lr at *
  generalize foldRows h lr = fr at *
  have LN := hid (nodeOf_length seed b h 0)
  generalize nodeOf seed b h 0 = root at *
  have t1 : decide ((leaf : Int) < 0) = false := by simp
  have t2 : decide (2 ^ h ≤ leaf) = false := by simp; omega
  have HLF := hid (show leaf < 1024 by omega)
  have HH := hid (show h ≤ 10 by omega)
  generalize hnn : 2 ^ h = n at HLV t2
  clear hk b1 b2 b3 b4 hpw hl hnn
  go_enter Try.func133, Try.ntmps133
  have HB := hid (grow_refl w)
  apply wp_seq_k; intro _ _; apply wp_region_lit
  refine op_boxC (cs := #[.int .i64 (b : Int), .int .i64 (h : Int)]) rfl rfl rfl rfl ?_
  intro gp w1 hgl hgu hb hr
  have PL := hid (Nat.le_trans HB.out.size hgl)
  replace HB := hid (Grow.trans HB.out hb)
  have P := hid hr; have PU := hid hgu
  clear hr hgl hgu hb
  try simp only [Act.put, List.setIfInBounds_toArray, List.set_cons_zero, List.set_cons_succ]
  go_wp2_with (first | (refine opG_loadB rfl rfl rfl P.out Try.underlying92 rfl rfl ?_) | (refine opG_load1 rfl rfl rfl P.out rfl Try.underlying3 rfl ?_) |  fail)
  refine (ktRight b h _).mono ?_
  rintro e w2 ⟨rfl, hb⟩
  replace HB := hid (Grow.trans HB.out hb)
  replace P := hid (grow_block P.out hb)
  clear hb
  rw [HK.out]
  go_wp2_with (first | (refine opG_loadB rfl rfl rfl P.out Try.underlying92 rfl rfl ?_) | (refine opG_load1 rfl rfl rfl P.out rfl Try.underlying3 rfl ?_) |  fail)
  refine (HLV.out _).mono ?_
  rintro e w3 ⟨rfl, hb⟩
  replace HB := hid (Grow.trans HB.out hb)
  replace P := hid (grow_block P.out hb)
  clear hb
  go_wp2_with (first | (refine opG_loadB rfl rfl rfl P.out Try.underlying92 rfl rfl ?_) | (refine opG_load1 rfl rfl rfl P.out rfl Try.underlying3 rfl ?_) |  fail)
  refine (HRO.out _).mono ?_
  rintro e w7 ⟨v, rfl, ho, hb⟩
  replace HB := hid (Grow.trans HB.out hb)
  replace P := hid (grow_block P.out hb)
  clear hb
  obtain ⟨A5, c5, rfl, hrs, hcap⟩ := ho.sl
  have RS := hid hrs
  have e1 : (0 : Int) ≤ (h : Int) := by omega
  have e3 : (h : Int) ≤ 10 := by have := HH.out; omega
  have e2 : (h : Int) ≤ (c5 : Int) := by have := HFL.out; omega
  obtain ⟨ad5, rfl, _⟩ := hrs.2 (by intro e; have := HFL.out; rw [e] at this; simp at this)
  clear ho hrs hcap
  go_wp2_with (first | (refine opG_loadB rfl rfl rfl P.out Try.underlying92 rfl rfl ?_) | (refine opG_load1 rfl rfl rfl P.out rfl Try.underlying3 rfl ?_) |  (refine op_allocstore (l := root) rfl rfl rfl rfl rfl rfl (fun _ => rfl) ⟨fun _ => rfl, LN.out⟩ ?_))
  intro g8 w4 hgl hgu hb hr
  have H8L := hid (Nat.le_trans HB.out.size hgl)
  replace HB := hid (Grow.trans HB.out hb)
  replace P := hid (grow_block P.out hb)
  replace RS := hid (RS.out.grow hb)
  have H8 := hid hr; have H8U := hid hgu
  clear hr hgl hgu hb
  try simp only [Act.put, List.setIfInBounds_toArray, List.set_cons_zero, List.set_cons_succ]
  go_wp2_with (first | (refine opG_loadB rfl rfl rfl P.out Try.underlying92 rfl rfl ?_) | (refine opG_load1 rfl rfl rfl P.out rfl Try.underlying3 rfl ?_) |  fail)
  have HO := hid (show OwnIds 25 w4.heap.size w4 (.slice none 0 0) (wayOf seed b 0 leaf) from ⟨World.ownsRow_nil _ _ _ _, fun _ h => by cases h⟩)
  have HLE := hid (show leaf / 2 ^ 0 = leaf by simp)
  have HSZ := hid HB.out.size
  go_loopg [2, 10, 37] (h + 1) (fun z x v i wr => ∃ k m : Nat, k ≤ h ∧ z = h + 1 - k ∧ x = .int .i64 (m : Int) ∧ i = .int .i64 (k : Int) ∧ Hid (leaf / 2 ^ k = m) ∧ Hid (OwnIds 25 w4.heap.size wr v (wayOf seed b k leaf)) ∧ Hid (Grow w4 wr))
  case atStart => exact ⟨0, leaf, by omega, rfl, rfl, rfl, HLE, HO, hid (grow_refl _)⟩
  case round =>
    clear HO HLE
    obtain ⟨k, m, hk, hz, rfl, rfl, HM, HO, HG⟩ := hrel
    replace HB := hid (Grow.trans HB.out HG.out)
    replace P := hid (grow_block P.out HG.out)
    replace RS := hid (RS.out.grow HG.out)
    replace H8 := hid (grow_block H8.out HG.out)
    by_cases hlt : k < h
    · have k0 : (0 : Int) ≤ (k : Int) := by omega
      have k1 : (k : Int) < (h : Int) := by omega
      have hml : m * 2 ^ k ≤ leaf := by rw [← HM.out]; exact Nat.div_mul_le_self _ _
      have hpp : 0 < 2 ^ k := Nat.pow_pos (by omega)
      have hm1 : m ≤ m * 2 ^ k := Nat.le_mul_of_pos_right _ hpp
      have hlf := HLF.out
      have hp0 : 2 ^ h = 2 ^ (h - k) * 2 ^ k := by rw [← Nat.pow_add]; congr 1; omega
      have hmp : m < 2 ^ (h - k) := by rw [← HM.out]; exact (Nat.div_lt_iff_lt_mul hpp).2 (by rw [← hp0]; exact HLH.out)
      have hev : 2 ^ (h - k) = 2 * 2 ^ (h - (k + 1)) := by rw [show h - k = (h - (k + 1)) + 1 by omega, Nat.pow_succ, Nat.mul_comm]
      have hp10 : 2 ^ (h - k) ≤ 2 ^ 10 := Nat.pow_le_pow_right (by omega) (by have := HH.out; omega)
      have m0 : (0 : Int) ≤ (m : Int) := by omega
      have m1 : (m : Int) ≤ 1024 := by omega
      have HM2 := hid (show leaf / 2 ^ (k + 1) = m / 2 by rw [← HM.out, Nat.pow_succ, Nat.div_div_eq_div_mul])
      have HWS := hid (wayOf_succ seed b k leaf)
      rw [HM.out] at HWS
      obtain ⟨s, hsd⟩ : ∃ s : Nat, s = beside m := ⟨_, rfl⟩
      have hsp : s < 2 ^ (h - k) := by rw [hsd]; unfold beside; split <;> omega
      have hxo : bits .xor .i64 (m : Int) 1 = (s : Int) := by rw [hsd]; exact xor_one m (by omega)
      have HDV := hid (show ((m / 2 : Nat) : Int) = (m : Int) / 2 from rfl)
      have HLW := hid (wayOf_length seed b k leaf)
      rw [← hsd] at HWS
      obtain ⟨ad6, e0, A', c', hcell, hrow⟩ := RS.out.at_ k (by rw [HFL.out]; omega)
      injection e0 with e0'
      subst e0'
      rw [HFG.out k hk] at hcell hrow
      rw [HRL.out k hk] at hcell
      have hlen := HRL.out k hk
      have hnode := HRN.out k s hk hsp
      generalize upN k lr = row at *
      obtain ⟨ad7, rfl, hc⟩ := hrow.at_ s (by omega)
      rw [hnode] at hc
      have HC := hid hc
      have LR := hid (nodeOf_length seed b k s)
      have hsq : (s : Int) < ((2 ^ (h - k) : Nat) : Int) := by omega
      generalize 2 ^ (h - k) = p at *
      generalize nodeOf seed b k s = r at *
      have s0 : (0 : Int) ≤ (s : Int) := by omega
      clear hml hpp hm1 hlf hp0 hmp hev hp10 hsd hsp hrow hlen hnode hc
      go_wp2_with (first | (refine op_loadAt (l := r) rfl rfl rfl HC.out LR.out ?_) | (refine op_appIds1 (w0 := w4) (l1 := r) rfl rfl rfl rfl rfl rfl (fun _ => rfl) (fun _ => rfl) LR.out HO.out HG.out HG.out.size (by rw [HLW.out]; have := HH.out; omega) ?_))
      intro x5 v5 w9 ho hbl _
      rw [← HWS.out] at ho
      have HO' := hid ho
      have HG' := hid hbl
      clear ho hbl
      go_wp2_with fail
      go_roundg (h + 1 - (k + 1))
      case rel => exact ⟨k + 1, m / 2, by omega, rfl, by rw [HDV.out], by go_num, HM2, HO', HG'⟩
      case measure => omega
    · obtain rfl : k = h := by omega
      go_wp2_with fail
      go_ret2
      exact ⟨_, rfl, HO.out.base HSZ.out, HB.out⟩
end Go.Proofs.Ytabkaflccaklhaa
