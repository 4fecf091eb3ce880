/- keytree.Of, Way: contracts. -/
import Derived.Test.YtabkaflccaklhaaGreatQKeyF
set_option linter.unusedSimpArgs false
set_option linter.unusedVariables false
namespace Go.Proofs.YtabkaflccaklhaaGreat
open Go.RowKit
open Go.Qk hiding rotr b4
set_option maxHeartbeats 1000000
set_option maxRecDepth 100000
theorem ktOfC (seed : ByteArray) (hs : seed.size ≤ 1000000) (b h : Nat) (hk : ktB b h = true) (w : World) :
    Calls Tryz.prog 61 #[.agg #[.int .i64 (b : Int), .int .i64 (h : Int)], .string seed] w fun e w' => e = .returned (.tuple #[idV (ktOf seed b h), .int .i64 0]) ∧ Below w.heap.size w w' := by
  have LN := hid (nodeOf_length seed b h 0)
  have HK := hid hk
  have HRO := hid (fun w => ktRows seed hs b h hk w)
  have HKE := hid (fun w => ktKey b h (nodeOf seed b h 0) LN.out hk w)
  have LK := hid (ktOf_length seed b h)
  have HO := hid (show keyOf b h (nodeOf seed b h 0) = ktOf seed b h from rfl)
  rw [HO.out] at HKE
  generalize nodeOf seed b h 0 = root at *
  generalize ktOf seed b h = key at *
  clear hk HO
  go_enter Tryz.func61, Tryz.ntmps61
  have HB := hid (grow_refl w)
  apply wp_seq_k; intro _ _; apply wp_region_lit
  refine op_boxC (cs := #[.int .i64 (b : Int), .int .i64 (h : Int)]) rfl rfl rfl rfl ?_
  intro gp w1 hgl hgu hb hr
  have PL := hid (Nat.le_trans HB.out.size hgl)
  replace HB := hid (Grow.trans HB.out hb)
  have P := hid hr; have PU := hid hgu
  clear hr hgl hgu hb
  try simp only [Act.put, List.setIfInBounds_toArray, List.set_cons_zero, List.set_cons_succ]
  refine op_alloc rfl rfl ?_
  intro gr w2 hgl hgu hb hr
  have HRL := hid (Nat.le_trans HB.out.size hgl)
  replace HB := hid (Grow.trans HB.out hb)
  replace P := hid (grow_block P.out hb)
  have HR := hid hr; have HRU := hid hgu
  clear hr hgl hgu hb
  try simp only [Act.put, List.setIfInBounds_toArray, List.set_cons_zero, List.set_cons_succ]
  go_wp2_with (first | (refine opG_loadB rfl rfl rfl P.out Tryz.underlying54 rfl rfl ?_) | (refine opG_load1 rfl rfl rfl P.out rfl Tryz.underlying3 rfl ?_) |  fail)
  refine (ktRight b h _).mono ?_
  rintro e w3 ⟨rfl, hb⟩
  replace HB := hid (Grow.trans HB.out hb)
  replace P := hid (grow_block P.out hb)
  replace HR := hid (grow_block HR.out hb)
  clear hb
  rw [HK.out]
  go_wp2_with (first | (refine opG_loadB rfl rfl rfl P.out Tryz.underlying54 rfl rfl ?_) | (refine opG_load1 rfl rfl rfl P.out rfl Tryz.underlying3 rfl ?_) |  fail)
  refine (HRO.out _).mono ?_
  rintro e w7 ⟨v, rfl, _, hb⟩
  replace HB := hid (Grow.trans HB.out hb)
  replace P := hid (grow_block P.out hb)
  replace HR := hid (grow_block HR.out hb)
  clear hb
  go_wp2_with (first | (refine opG_loadB rfl rfl rfl P.out Tryz.underlying54 rfl rfl ?_) | (refine opG_load1 rfl rfl rfl P.out rfl Tryz.underlying3 rfl ?_) |  (refine op_allocstore (l := root) rfl rfl rfl rfl rfl rfl (fun _ => rfl) ⟨fun _ => rfl, LN.out⟩ ?_))
  intro g6 w4 hgl hgu hb hr
  have H6L := hid (Nat.le_trans HB.out.size hgl)
  replace HB := hid (Grow.trans HB.out hb)
  replace P := hid (grow_block P.out hb)
  replace HR := hid (grow_block HR.out hb)
  have H6 := hid hr; have H6U := hid hgu
  clear hr hgl hgu hb
  try simp only [Act.put, List.setIfInBounds_toArray, List.set_cons_zero, List.set_cons_succ]
  go_wp2_with (first | (refine opG_loadB rfl rfl rfl P.out Tryz.underlying54 rfl rfl ?_) | (refine opG_load1 rfl rfl rfl P.out rfl Tryz.underlying3 rfl ?_) | (refine op_loadId rfl rfl rfl H6.out (LN.out) ?_) |  fail)
  refine (HKE.out _).mono ?_
  rintro e w5 ⟨rfl, hb⟩
  replace HB := hid (Grow.trans HB.out hb)
  replace P := hid (grow_block P.out hb)
  replace HR := hid (grow_block HR.out hb)
  replace H6 := hid (grow_block H6.out hb)
  clear hb
  go_wp2_with (first | (refine opG_loadB rfl rfl rfl P.out Tryz.underlying54 rfl rfl ?_) | (refine opG_load1 rfl rfl rfl P.out rfl Tryz.underlying3 rfl ?_) | (refine op_loadId rfl rfl rfl H6.out (LN.out) ?_) |  (refine op_buildId rfl rfl ?_) | (refine op_storeId (l := key) rfl rfl rfl rfl rfl HR.out (by rfl) (LK.out) ?_))
  intro wz hz _ hbz
  have HZ := hid hz; have HBZ := hid (hbz _ _ HB.out HRL.out)
  clear hz hbz
  go_wp2_with fail
  refine bodyPost_ret (ret_idt rfl rfl HZ.out (LK.out)) rfl ⟨?_, HBZ.out⟩
  rfl
theorem ktOfC_bad (seed : ByteArray) (b h : Int) (hk : ktB b h = false) (w : World) :
    Calls Tryz.prog 61 #[.agg #[.int .i64 b, .int .i64 h], .string seed] w fun e w' => e = .returned (.tuple #[idV (zero8 32), .int .i64 1]) ∧ Below w.heap.size w w' := by
  have HK := hid hk
  clear hk
  go_enter Tryz.func61, Tryz.ntmps61
  have HB := hid (grow_refl w)
  apply wp_seq_k; intro _ _; apply wp_region_lit
  refine op_boxC (cs := #[.int .i64 b, .int .i64 h]) rfl rfl rfl rfl ?_
  intro gp w1 hgl hgu hb hr
  have PL := hid (Nat.le_trans HB.out.size hgl)
  replace HB := hid (Grow.trans HB.out hb)
  have P := hid hr; have PU := hid hgu
  clear hr hgl hgu hb
  try simp only [Act.put, List.setIfInBounds_toArray, List.set_cons_zero, List.set_cons_succ]
  refine op_alloc rfl rfl ?_
  intro gr w2 hgl hgu hb hr
  have HRL := hid (Nat.le_trans HB.out.size hgl)
  replace HB := hid (Grow.trans HB.out hb)
  replace P := hid (grow_block P.out hb)
  have HR := hid hr; have HRU := hid hgu
  clear hr hgl hgu hb
  try simp only [Act.put, List.setIfInBounds_toArray, List.set_cons_zero, List.set_cons_succ]
  go_wp2_with (first | (refine opG_loadB rfl rfl rfl P.out Tryz.underlying54 rfl rfl ?_) | (refine opG_load1 rfl rfl rfl P.out rfl Tryz.underlying3 rfl ?_) |  fail)
  refine (ktRight b h _).mono ?_
  rintro e w3 ⟨rfl, hb⟩
  replace HB := hid (Grow.trans HB.out hb)
  replace P := hid (grow_block P.out hb)
  replace HR := hid (grow_block HR.out hb)
  clear hb
  rw [HK.out]
  go_wp2_with (first | (refine opG_loadB rfl rfl rfl P.out Tryz.underlying54 rfl rfl ?_) | (refine opG_load1 rfl rfl rfl P.out rfl Tryz.underlying3 rfl ?_) |  (refine op_buildId rfl rfl ?_) | (refine op_storeId (l := zero8 32) rfl rfl rfl rfl rfl HR.out (by rfl) (rfl) ?_))
  intro wz hz _ hbz
  have HZ := hid hz; have HBZ := hid (hbz _ _ HB.out HRL.out)
  clear hz hbz
  go_wp2_with fail
  refine bodyPost_ret (ret_idt rfl rfl HZ.out (rfl)) rfl ⟨?_, HBZ.out⟩
  rfl
theorem xorF : ∀ m : Fin 1024, bits .xor .i64 ((m.val : Nat) : Int) 1 = ((beside m.val : Nat) : Int) := by decide +kernel
theorem xor_one (m : Nat) (h : m < 1024) : bits .xor .i64 (m : Int) 1 = ((beside m : Nat) : Int) := xorF ⟨m, h⟩
theorem rows_node (seed : ByteArray) (b h k s : Nat) (hk : k ≤ h) (hs : s < 2 ^ (h - k)) : (upN k (leafRow seed b (2 ^ h))).getD s [] = nodeOf seed b k s := by
  have e : (2 : Nat) ^ h = 2 ^ k * 2 ^ (h - k) := by rw [← Nat.pow_add]; congr 1; omega
  have e2 : leafRow seed b (2 ^ h) = (List.range (2 ^ k * 2 ^ (h - k))).map (nodeOf seed b 0) := by rw [← e]; rfl
  rw [e2, upN_node]
  simp [hs]
end Go.Proofs.YtabkaflccaklhaaGreat
