/- the reference's Node, Of, Way (keytree): contracts. -/
import Derived.Test.YtabkaflccaklhaaGreatQKeyA
import Derived.Test.YtabkaflccaklhaaGreatQRowR
set_option linter.unusedSimpArgs false
set_option linter.unusedVariables false
namespace Go.Proofs.YtabkaflccaklhaaGreat
open Go.RowKit
open Go.Qk hiding rotr b4
set_option maxHeartbeats 1000000
set_option maxRecDepth 100000
theorem refNode7 (seed : ByteArray) (hs : seed.size ≤ 1000000) (b h : Nat) (hb : b ≤ 1000) : ∀ (l i : Nat) (w : World), (i + 1) * 2 ^ l ≤ 2 ^ 20 → l ≤ 20 →
    Calls Tryz.prog 77 #[.agg #[.int .i64 (b : Int), .int .i64 (h : Int)], .string seed, .int .i64 (l : Int), .int .i64 (i : Int)] w fun e w' => e = .returned (idV (nodeOf seed b l i)) ∧ Below w.heap.size w w'
  | 0, i, w, hi, hl => by
    have HL := hid (leafOf_length seed i b)
    have HNO := hid (show nodeOf seed b 0 i = leafOf seed i b from rfl)
    rw [HNO.out]
    clear hi hl
    go_enter Tryz.func77, Tryz.ntmps77
    have HB := hid (grow_refl w)
    apply wp_seq_k; intro _ _; apply wp_region_lit
    refine op_boxC (cs := #[.int .i64 (b : Int), .int .i64 (h : Int)]) rfl rfl rfl rfl ?_
    intro gp w1 hgl hgu hb hr
    have PL := hid (Nat.le_trans HB.out.size hgl)
    replace HB := hid (Grow.trans HB.out hb)
    have P := hid hr; have PU := hid hgu
    clear hr hgl hgu hb
    try simp only [Act.put, List.setIfInBounds_toArray, List.set_cons_zero, List.set_cons_succ]
    refine op_alloc rfl rfl ?_
    intro gr w2 hgl hgu hb hr
    have HRL := hid (Nat.le_trans HB.out.size hgl)
    replace HB := hid (Grow.trans HB.out hb)
    replace P := hid (grow_block P.out hb)
    have HR := hid hr; have HRU := hid hgu
    clear hr hgl hgu hb
    try simp only [Act.put, List.setIfInBounds_toArray, List.set_cons_zero, List.set_cons_succ]
    refine wpList_nil ?_
    go_wp2_with (first | (refine opG_loadB rfl rfl rfl P.out Tryz.underlying54 rfl rfl ?_) | (refine opG_load1 rfl rfl rfl P.out rfl Tryz.underlying3 rfl ?_) |  fail)
    refine (refLeaf seed i b hs hb _).mono ?_
    rintro e w3 ⟨rfl, hb⟩
    replace HB := hid (Grow.trans HB.out hb)
    replace P := hid (grow_block P.out hb)
    replace HR := hid (grow_block HR.out hb)
    clear hb
    go_wp2_with (first | (refine opG_loadB rfl rfl rfl P.out Tryz.underlying54 rfl rfl ?_) | (refine opG_load1 rfl rfl rfl P.out rfl Tryz.underlying3 rfl ?_) |  (refine op_buildId rfl rfl ?_) | (refine op_storeId (l := leafOf seed i b) rfl rfl rfl rfl rfl HR.out (by rfl) (HL.out) ?_))
    intro wz hz _ hbz
    have HZ := hid hz; have HBZ := hid (hbz _ _ HB.out HRL.out)
    clear hz hbz
    go_wp2_with fail
    refine bodyPost_ret (ret_id rfl rfl HZ.out (HL.out)) rfl ⟨?_, HBZ.out⟩
    rfl
  | l + 1, i, w, hi, hl => by
    have hp : (i + 1) * 2 ^ (l + 1) = (2 * i + 2) * 2 ^ l := by rw [Nat.pow_succ, Nat.mul_comm (2 ^ l) 2, ← Nat.mul_assoc]; congr 1; omega
    have hp1 : (2 * i + 1) * 2 ^ l ≤ (2 * i + 2) * 2 ^ l := Nat.mul_le_mul_right _ (by omega)
    have hi2 : 2 * i + 2 ≤ (2 * i + 2) * 2 ^ l := Nat.le_mul_of_pos_right _ (Nat.pow_pos (by omega))
    obtain ⟨a, ha⟩ : ∃ a : Nat, a = 2 * i := ⟨_, rfl⟩
    obtain ⟨c, hc⟩ : ∃ c : Nat, c = a + 1 := ⟨_, rfl⟩
    obtain ⟨v, hv⟩ : ∃ v : Nat, v = l + 1 := ⟨_, rfl⟩
    have HA := hid (fun w => refNode7 seed hs b h hb l a w (by rw [ha]; omega) (by omega))
    have HC := hid (fun w => refNode7 seed hs b h hb l c w (by rw [hc, ha, show 2 * i + 1 + 1 = 2 * i + 2 from rfl]; omega) (by omega))
    have HNO := hid (show nodeOf seed b (l + 1) i = nd (nodeOf seed b l a) (nodeOf seed b l c) by rw [hc, ha]; rfl)
    have LA := hid (nodeOf_length seed b l a)
    have LC := hid (nodeOf_length seed b l c)
    have ha2 : 2 * (i : Int) = (a : Int) := by omega
    have hc2 : (a : Int) + 1 = (c : Int) := by omega
    have hv2 : (v : Int) - 1 = (l : Int) := by omega
    have v1 : 1 ≤ (v : Int) := by omega
    have v2 : (v : Int) ≤ 100 := by omega
    have wa : IntKind.i64.wrap (a : Int) = (a : Int) := IntWalk.i64_in _ (by omega)
    have wc : IntKind.i64.wrap (c : Int) = (c : Int) := IntWalk.i64_in _ (by omega)
    have wl : IntKind.i64.wrap (l : Int) = (l : Int) := IntWalk.i64_in _ (by omega)
    rw [HNO.out, ← hv]
    generalize nodeOf seed b l a = r1 at *
    generalize nodeOf seed b l c = r2 at *
    have t0 : ((v : Int) == 0) = false := by simp; omega
    have ND := hid (nd_length r1 r2)
    clear hp hp1 hi2 hi hl ha hc hv HNO
    go_enter Tryz.func77, Tryz.ntmps77
    have HB := hid (grow_refl w)
    apply wp_seq_k; intro _ _; apply wp_region_lit
    refine op_boxC (cs := #[.int .i64 (b : Int), .int .i64 (h : Int)]) rfl rfl rfl rfl ?_
    intro gp w4 hgl hgu hb hr
    have PL := hid (Nat.le_trans HB.out.size hgl)
    replace HB := hid (Grow.trans HB.out hb)
    have P := hid hr; have PU := hid hgu
    clear hr hgl hgu hb
    try simp only [Act.put, List.setIfInBounds_toArray, List.set_cons_zero, List.set_cons_succ]
    refine op_alloc rfl rfl ?_
    intro gr w5 hgl hgu hb hr
    have HRL := hid (Nat.le_trans HB.out.size hgl)
    replace HB := hid (Grow.trans HB.out hb)
    replace P := hid (grow_block P.out hb)
    have HR := hid hr; have HRU := hid hgu
    clear hr hgl hgu hb
    try simp only [Act.put, List.setIfInBounds_toArray, List.set_cons_zero, List.set_cons_succ]
    refine wpList_nil ?_
    go_wp2_with fail
    (refine' wp_region_head 16 1 [_, _, _, _, _, _, _, _, _, _, _, _, _, _, _, _] rfl (by kernel_rfl) (by kernel_rfl) ?hreg1; case' hreg1 => simp only [List.take_succ_cons, List.take_zero, List.zip_cons_cons, List.zip_nil_right, List.drop_succ_cons, List.drop_zero, List.drop_nil])
    (refine' head_loadB rfl ?_ rfl rfl P.out Tryz.underlying54 rfl rfl ?_; (first | exact fun _ _ _ => trivial | (intro t ht w; cases ht; simp [upE])); try simp only [Act.put, List.setIfInBounds_toArray, List.set_cons_zero, List.set_cons_succ])
    (refine' head_val ?dw2 ?de2 ?dr2 ?dh2; (case' dw2 => rfl); (case' de2 => (first | exact fun _ _ _ => trivial | (intro t ht w; cases ht; simp [upE]))); (case' dr2 => (intro w' hw' _; go_simp; with_reducible rfl)); (case' dh2 => (try simp only [Act.put, List.setIfInBounds_toArray, List.set_cons_zero, List.set_cons_succ]))); (refine' head_val ?dw3 ?de3 ?dr3 ?dh3; (case' dw3 => rfl); (case' de3 => (first | exact fun _ _ _ => trivial | (intro t ht w; cases ht; simp [upE]))); (case' dr3 => (intro w' hw' _; go_simp; with_reducible rfl)); (case' dh3 => (try simp only [Act.put, List.setIfInBounds_toArray, List.set_cons_zero, List.set_cons_succ]))); (refine' head_val ?dw4 ?de4 ?dr4 ?dh4; (case' dw4 => rfl); (case' de4 => (first | exact fun _ _ _ => trivial | (intro t ht w; cases ht; simp [upE]))); (case' dr4 => (intro w' hw' _; go_simp; with_reducible rfl)); (case' dh4 => (try simp only [Act.put, List.setIfInBounds_toArray, List.set_cons_zero, List.set_cons_succ]))); (refine' head_val ?dw5 ?de5 ?dr5 ?dh5; (case' dw5 => rfl); (case' de5 => (first | exact fun _ _ _ => trivial | (intro t ht w; cases ht; simp [upE]))); (case' dr5 => (intro w' hw' _; go_simp; with_reducible rfl)); (case' dh5 => (try simp only [Act.put, List.setIfInBounds_toArray, List.set_cons_zero, List.set_cons_succ]))); (refine' head_val ?dw6 ?de6 ?dr6 ?dh6; (case' dw6 => rfl); (case' de6 => (first | exact fun _ _ _ => trivial | (intro t ht w; cases ht; simp [upE]))); (case' dr6 => (intro w' hw' _; go_simp; with_reducible rfl)); (case' dh6 => (try simp only [Act.put, List.setIfInBounds_toArray, List.set_cons_zero, List.set_cons_succ])))
    (refine' head_call ?cw7 ?ce7 ?cr7 ?cc7 ?ch7; (case' cw7 => rfl); (case' ce7 => (first | exact fun _ _ _ => trivial | (intro t ht w; cases ht; simp [upE]))); (case' cr7 => (intro w'; go_simp; first | exact ⟨rfl, rfl⟩ | with_reducible rfl)); (case' cc7 => (intro w' hw' _; exact HA.out w')); (case' ch7 => (try simp only [Act.put, List.setIfInBounds_toArray, List.set_cons_zero, List.set_cons_succ])))
    (refine' head_loadB rfl ?_ rfl rfl P.out Tryz.underlying54 rfl rfl ?_; (first | exact fun _ _ _ => trivial | (intro t ht w; cases ht; simp [upE])); try simp only [Act.put, List.setIfInBounds_toArray, List.set_cons_zero, List.set_cons_succ])
    (refine' head_val ?dw8 ?de8 ?dr8 ?dh8; (case' dw8 => rfl); (case' de8 => (first | exact fun _ _ _ => trivial | (intro t ht w; cases ht; simp [upE]))); (case' dr8 => (intro w' hw' _; go_simp; with_reducible rfl)); (case' dh8 => (try simp only [Act.put, List.setIfInBounds_toArray, List.set_cons_zero, List.set_cons_succ]))); (refine' head_val ?dw9 ?de9 ?dr9 ?dh9; (case' dw9 => rfl); (case' de9 => (first | exact fun _ _ _ => trivial | (intro t ht w; cases ht; simp [upE]))); (case' dr9 => (intro w' hw' _; go_simp; with_reducible rfl)); (case' dh9 => (try simp only [Act.put, List.setIfInBounds_toArray, List.set_cons_zero, List.set_cons_succ]))); (refine' head_val ?dw10 ?de10 ?dr10 ?dh10; (case' dw10 => rfl); (case' de10 => (first | exact fun _ _ _ => trivial | (intro t ht w; cases ht; simp [upE]))); (case' dr10 => (intro w' hw' _; go_simp; with_reducible rfl)); (case' dh10 => (try simp only [Act.put, List.setIfInBounds_toArray, List.set_cons_zero, List.set_cons_succ]))); (refine' head_val ?dw11 ?de11 ?dr11 ?dh11; (case' dw11 => rfl); (case' de11 => (first | exact fun _ _ _ => trivial | (intro t ht w; cases ht; simp [upE]))); (case' dr11 => (intro w' hw' _; go_simp; with_reducible rfl)); (case' dh11 => (try simp only [Act.put, List.setIfInBounds_toArray, List.set_cons_zero, List.set_cons_succ]))); (refine' head_val ?dw12 ?de12 ?dr12 ?dh12; (case' dw12 => rfl); (case' de12 => (first | exact fun _ _ _ => trivial | (intro t ht w; cases ht; simp [upE]))); (case' dr12 => (intro w' hw' _; go_simp; with_reducible rfl)); (case' dh12 => (try simp only [Act.put, List.setIfInBounds_toArray, List.set_cons_zero, List.set_cons_succ]))); (refine' head_val ?dw13 ?de13 ?dr13 ?dh13; (case' dw13 => rfl); (case' de13 => (first | exact fun _ _ _ => trivial | (intro t ht w; cases ht; simp [upE]))); (case' dr13 => (intro w' hw' _; go_simp; with_reducible rfl)); (case' dh13 => (try simp only [Act.put, List.setIfInBounds_toArray, List.set_cons_zero, List.set_cons_succ])))
    (refine' head_call ?cw14 ?ce14 ?cr14 ?cc14 ?ch14; (case' cw14 => rfl); (case' ce14 => (first | exact fun _ _ _ => trivial | (intro t ht w; cases ht; simp [upE]))); (case' cr14 => (intro w'; go_simp; first | exact ⟨rfl, rfl⟩ | with_reducible rfl)); (case' cc14 => (intro w' hw' _; exact HC.out w')); (case' ch14 => (try simp only [Act.put, List.setIfInBounds_toArray, List.set_cons_zero, List.set_cons_succ])))
    (refine' head_call ?cw15 ?ce15 ?cr15 ?cc15 ?ch15; (case' cw15 => rfl); (case' ce15 => (first | exact fun _ _ _ => trivial | (intro t ht w; cases ht; simp [upE]))); (case' cr15 => (intro w'; go_simp; first | exact ⟨rfl, rfl⟩ | with_reducible rfl)); (case' cc15 => (intro w' hw' _; exact refPair nodeName r1 r2 LA.out LC.out (by decide) w')); (case' ch15 => (try simp only [Act.put, List.setIfInBounds_toArray, List.set_cons_zero, List.set_cons_succ])))
    refine head_nil ?_
    intro w6 hb _
    replace HB := hid (Grow.trans HB.out hb)
    replace P := hid (grow_block P.out hb)
    replace HR := hid (grow_block HR.out hb)
    clear hb
    go_wp2_with (first | (refine opG_loadB rfl rfl rfl P.out Tryz.underlying54 rfl rfl ?_) | (refine opG_load1 rfl rfl rfl P.out rfl Tryz.underlying3 rfl ?_) |  (refine op_buildId rfl rfl ?_) | (refine op_storeId (l := nd r1 r2) rfl rfl rfl rfl rfl HR.out (by rfl) (ND.out) ?_))
    intro wz hz _ hbz
    have HZ := hid hz; have HBZ := hid (hbz _ _ HB.out HRL.out)
    clear hz hbz
    go_wp2_with fail
    refine bodyPost_ret (ret_id rfl rfl HZ.out (ND.out)) rfl ⟨?_, HBZ.out⟩
    rfl
def ktOf (seed : ByteArray) (b h : Nat) : IdK := keyOf b h (nodeOf seed b h 0)
theorem ktOf_length (seed : ByteArray) (b h : Nat) : (ktOf seed b h).length = 32 := keyOf_length _ _ _
theorem refOf7 (seed : ByteArray) (hs : seed.size ≤ 1000000) (b h : Nat) (hb : b ≤ 256) (hh : h ≤ 10) (w : World) :
    Calls Tryz.prog 35 #[.agg #[.int .i64 (b : Int), .int .i64 (h : Int)], .string seed] w fun e w' => e = .returned (idV (ktOf seed b h)) ∧ Below w.heap.size w w' := by
  have hp : (0 + 1) * 2 ^ h ≤ 2 ^ 20 := by rw [Nat.zero_add, Nat.one_mul]; exact Nat.pow_le_pow_right (by omega) (by omega)
  have HN := hid (fun w => (by simpa using refNode7 seed hs b h (by omega) h 0 w hp (by omega) : Calls Tryz.prog 77 #[.agg #[.int .i64 (b : Int), .int .i64 (h : Int)], .string seed, .int .i64 (h : Int), .int .i64 0] w fun e w' => e = .returned (idV (nodeOf seed b h 0)) ∧ Below w.heap.size w w'))
  have LN := hid (nodeOf_length seed b h 0)
  have HK := hid (fun w => refKey7 b h (nodeOf seed b h 0) LN.out hb hh w)
  have LK := hid (ktOf_length seed b h)
  have HO := hid (show keyOf b h (nodeOf seed b h 0) = ktOf seed b h from rfl)
  rw [HO.out] at HK
  generalize nodeOf seed b h 0 = r at *
  generalize ktOf seed b h = k at *
  clear hp HO
  go_enter Tryz.func35, Tryz.ntmps35
  have HB := hid (grow_refl w)
  apply wp_seq_k; intro _ _; apply wp_region_lit
  refine op_boxC (cs := #[.int .i64 (b : Int), .int .i64 (h : Int)]) rfl rfl rfl rfl ?_
  intro gp w1 hgl hgu hb hr
  have PL := hid (Nat.le_trans HB.out.size hgl)
  replace HB := hid (Grow.trans HB.out hb)
  have P := hid hr; have PU := hid hgu
  clear hr hgl hgu hb
  try simp only [Act.put, List.setIfInBounds_toArray, List.set_cons_zero, List.set_cons_succ]
  refine op_alloc rfl rfl ?_
  intro gr w2 hgl hgu hb hr
  have HRL := hid (Nat.le_trans HB.out.size hgl)
  replace HB := hid (Grow.trans HB.out hb)
  replace P := hid (grow_block P.out hb)
  have HR := hid hr; have HRU := hid hgu
  clear hr hgl hgu hb
  try simp only [Act.put, List.setIfInBounds_toArray, List.set_cons_zero, List.set_cons_succ]
  refine wpList_nil ?_
  go_wp2_with fail
  (refine' wp_region_head 7 1 [_, _, _, _, _, _, _] rfl (by kernel_rfl) (by kernel_rfl) ?hreg16; case' hreg16 => simp only [List.take_succ_cons, List.take_zero, List.zip_cons_cons, List.zip_nil_right, List.drop_succ_cons, List.drop_zero, List.drop_nil])
  (refine' head_loadB rfl ?_ rfl rfl P.out Tryz.underlying54 rfl rfl ?_; (first | exact fun _ _ _ => trivial | (intro t ht w; cases ht; simp [upE])); try simp only [Act.put, List.setIfInBounds_toArray, List.set_cons_zero, List.set_cons_succ])
  (refine' head_loadB rfl ?_ rfl rfl P.out Tryz.underlying54 rfl rfl ?_; (first | exact fun _ _ _ => trivial | (intro t ht w; cases ht; simp [upE])); try simp only [Act.put, List.setIfInBounds_toArray, List.set_cons_zero, List.set_cons_succ])
  (refine' head_val ?dw17 ?de17 ?dr17 ?dh17; (case' dw17 => rfl); (case' de17 => (first | exact fun _ _ _ => trivial | (intro t ht w; cases ht; simp [upE]))); (case' dr17 => (intro w' hw' _; go_simp; with_reducible rfl)); (case' dh17 => (try simp only [Act.put, List.setIfInBounds_toArray, List.set_cons_zero, List.set_cons_succ]))); (refine' head_val ?dw18 ?de18 ?dr18 ?dh18; (case' dw18 => rfl); (case' de18 => (first | exact fun _ _ _ => trivial | (intro t ht w; cases ht; simp [upE]))); (case' dr18 => (intro w' hw' _; go_simp; with_reducible rfl)); (case' dh18 => (try simp only [Act.put, List.setIfInBounds_toArray, List.set_cons_zero, List.set_cons_succ])))
  (refine' head_load1 rfl ?_ rfl rfl P.out rfl Tryz.underlying3 rfl ?_; (first | exact fun _ _ _ => trivial | (intro t ht w; cases ht; simp [upE])); try simp only [Act.put, List.setIfInBounds_toArray, List.set_cons_zero, List.set_cons_succ])
  (refine' head_call ?cw19 ?ce19 ?cr19 ?cc19 ?ch19; (case' cw19 => rfl); (case' ce19 => (first | exact fun _ _ _ => trivial | (intro t ht w; cases ht; simp [upE]))); (case' cr19 => (intro w'; go_simp; first | exact ⟨rfl, rfl⟩ | with_reducible rfl)); (case' cc19 => (intro w' hw' _; exact HN.out w')); (case' ch19 => (try simp only [Act.put, List.setIfInBounds_toArray, List.set_cons_zero, List.set_cons_succ])))
  (refine' head_call ?cw20 ?ce20 ?cr20 ?cc20 ?ch20; (case' cw20 => rfl); (case' ce20 => (first | exact fun _ _ _ => trivial | (intro t ht w; cases ht; simp [upE]))); (case' cr20 => (intro w'; go_simp; first | exact ⟨rfl, rfl⟩ | with_reducible rfl)); (case' cc20 => (intro w' hw' _; exact HK.out w')); (case' ch20 => (try simp only [Act.put, List.setIfInBounds_toArray, List.set_cons_zero, List.set_cons_succ])))
  refine head_nil ?_
  intro w3 hb _
  replace HB := hid (Grow.trans HB.out hb)
  replace P := hid (grow_block P.out hb)
  replace HR := hid (grow_block HR.out hb)
  clear hb
  go_wp2_with (first |  (refine op_buildId rfl rfl ?_) | (refine op_storeId (l := k) rfl rfl rfl rfl rfl HR.out (by rfl) (LK.out) ?_))
  intro wz hz _ hbz
  have HZ := hid hz; have HBZ := hid (hbz _ _ HB.out HRL.out)
  clear hz hbz
  go_wp2_with fail
  refine bodyPost_ret (ret_id rfl rfl HZ.out (LK.out)) rfl ⟨?_, HBZ.out⟩
  rfl
theorem wayOf_32 (seed : ByteArray) (b h leaf : Nat) : ∀ s ∈ wayOf seed b h leaf, s.length = 32 := by
  intro s hs
  obtain ⟨l, _, rfl⟩ := List.mem_map.1 hs
  exact nodeOf_length _ _ _ _
theorem refWay7 (seed : ByteArray) (hs : seed.size ≤ 1000000) (b h : Nat) (hb : b ≤ 256) (hh : h ≤ 10) (leaf : Nat) (hl : leaf < 2 ^ h) (w : World) :
    Calls Tryz.prog 60 #[.agg #[.int .i64 (b : Int), .int .i64 (h : Int)], .string seed, .int .i64 (leaf : Int)] w (RetIds w.heap.size w (wayOf seed b h leaf)) := by
  have h10 : 2 ^ h ≤ 2 ^ 10 := Nat.pow_le_pow_right (by omega) hh
  have HLF := hid (show leaf < 1024 by omega)
  clear h10 hl
  go_enter Tryz.func60, Tryz.ntmps60
  have HB := hid (grow_refl w)
  apply wp_seq_k; intro _ _; apply wp_region_lit
  refine op_boxC (cs := #[.int .i64 (b : Int), .int .i64 (h : Int)]) rfl rfl rfl rfl ?_
  intro gp w1 hgl hgu hb hr
  have PL := hid (Nat.le_trans HB.out.size hgl)
  replace HB := hid (Grow.trans HB.out hb)
  have P := hid hr; have PU := hid hgu
  clear hr hgl hgu hb
  try simp only [Act.put, List.setIfInBounds_toArray, List.set_cons_zero, List.set_cons_succ]
  go_wp2_with fail
  have HO := hid (own_empty w1 w1.heap.size (Nat.le_refl _) (w1.alloc (.cells #[] 42)) (heap_alloc_new _ _))
  have HG := hid (show Grow w1 (w1.alloc (.cells #[] 42)) from grow_alloc _ _)
  have HLE := hid (show leaf / 2 ^ 0 = leaf by simp)
  have HS1 := hid HB.out.size
  go_loopg [2, 7, 8] (h + 1) (fun z x v i wr => ∃ k m : Nat, k ≤ h ∧ z = h + 1 - k ∧ x = .int .i64 (m : Int) ∧ i = .int .i64 (k : Int) ∧ Hid (leaf / 2 ^ k = m) ∧ Hid (OwnIds 42 w1.heap.size wr v (wayOf seed b k leaf)) ∧ Hid (Grow w1 wr))
  case atStart => exact ⟨0, leaf, by omega, rfl, rfl, rfl, HLE, HO, HG⟩
  case round =>
    clear HO HG HLE
    obtain ⟨k, m, hk, hz, rfl, rfl, HM, HO, HG⟩ := hrel
    replace HB := hid (Grow.trans HB.out HG.out)
    replace P := hid (grow_block P.out HG.out)
    by_cases hlt : k < h
    · have k0 : (0 : Int) ≤ (k : Int) := by omega
      have k1 : (k : Int) < (h : Int) := by omega
      have hml : m * 2 ^ k ≤ leaf := by rw [← HM.out]; exact Nat.div_mul_le_self _ _
      have hpk : 2 ^ k ≤ 2 ^ 10 := Nat.pow_le_pow_right (by omega) (by omega)
      have hpp : 0 < 2 ^ k := Nat.pow_pos (by omega)
      have hm1 : m ≤ m * 2 ^ k := Nat.le_mul_of_pos_right _ hpp
      have hlf := HLF.out
      have m0 : (0 : Int) ≤ (m : Int) := by omega
      have m1 : (m : Int) ≤ 1024 := by omega
      have HM2 := hid (show leaf / 2 ^ (k + 1) = m / 2 by rw [← HM.out, Nat.pow_succ, Nat.div_div_eq_div_mul])
      have HWS := hid (wayOf_succ seed b k leaf)
      rw [HM.out] at HWS
      obtain ⟨s, hsd⟩ : ∃ s : Nat, s = beside m := ⟨_, rfl⟩
      have hsm : s ≤ m + 1 := by rw [hsd]; unfold beside; split <;> omega
      have hnb : (s + 1) * 2 ^ k ≤ (m + 2) * 2 ^ k := Nat.mul_le_mul_right _ (by omega)
      have hnb2 : (m + 2) * 2 ^ k = m * 2 ^ k + 2 * 2 ^ k := Nat.add_mul _ _ _
      have HN := hid (fun w => refNode7 seed hs b h (by omega) k s w (by omega) (by omega))
      have LN := hid (nodeOf_length seed b k s)
      have HDV := hid (show ((m / 2 : Nat) : Int) = (m : Int) / 2 from rfl)
      have HLW := hid (wayOf_length seed b k leaf)
      rw [← hsd] at HWS
      by_cases hp : m % 2 = 1
      · have tp : ((m : Int) % 2 == 1) = true := by simp; omega
        have hs2 : (m : Int) - 1 = (s : Int) := by rw [hsd, beside, if_pos hp]; omega
        have mm : 1 ≤ (m : Int) := by omega
        generalize nodeOf seed b k s = r at *
        clear hp hsd hsm hnb hnb2 hml hpk hpp hm1 hlf
        go_wp2_with (first | (refine opG_loadB rfl rfl rfl P.out Tryz.underlying54 rfl rfl ?_) | (refine opG_load1 rfl rfl rfl P.out rfl Tryz.underlying3 rfl ?_) |  fail)
        refine (HN.out _).mono ?_
        rintro e w2 ⟨rfl, hb⟩
        replace HB := hid (Grow.trans HB.out hb)
        replace P := hid (grow_block P.out hb)
        replace HO := hid (HO.out.grow hb)
        replace HG := hid (Grow.trans HG.out hb)
        clear hb
        go_wp2_with (refine op_appIds1 (w0 := w1) (l1 := r) rfl rfl rfl rfl rfl rfl (fun _ => rfl) (fun _ => rfl) LN.out HO.out HG.out HG.out.size (by rw [HLW.out]; omega) ?_)
        intro x5 v5 w9 ho hbl _
        rw [← HWS.out] at ho
        have HO' := hid ho
        have HG' := hid hbl
        clear ho hbl
        go_wp2_with fail
        go_roundg (h + 1 - (k + 1))
        case rel => exact ⟨k + 1, m / 2, by omega, rfl, by rw [HDV.out], by go_num, HM2, HO', HG'⟩
        case measure => omega
      · have tp : ((m : Int) % 2 == 1) = false := by simp; omega
        have hs2 : (m : Int) + 1 = (s : Int) := by rw [hsd, beside, if_neg hp]; omega
        generalize nodeOf seed b k s = r at *
        clear hp hsd hsm hnb hnb2 hml hpk hpp hm1 hlf
        go_wp2_with (first | (refine opG_loadB rfl rfl rfl P.out Tryz.underlying54 rfl rfl ?_) | (refine opG_load1 rfl rfl rfl P.out rfl Tryz.underlying3 rfl ?_) |  fail)
        refine (HN.out _).mono ?_
        rintro e w3 ⟨rfl, hb⟩
        replace HB := hid (Grow.trans HB.out hb)
        replace P := hid (grow_block P.out hb)
        replace HO := hid (HO.out.grow hb)
        replace HG := hid (Grow.trans HG.out hb)
        clear hb
        go_wp2_with (refine op_appIds1 (w0 := w1) (l1 := r) rfl rfl rfl rfl rfl rfl (fun _ => rfl) (fun _ => rfl) LN.out HO.out HG.out HG.out.size (by rw [HLW.out]; omega) ?_)
        intro x5 v5 w9 ho hbl _
        rw [← HWS.out] at ho
        have HO' := hid ho
        have HG' := hid hbl
        clear ho hbl
        go_wp2_with fail
        go_roundg (h + 1 - (k + 1))
        case rel => exact ⟨k + 1, m / 2, by omega, rfl, by rw [HDV.out], by go_num, HM2, HO', HG'⟩
        case measure => omega
    · obtain rfl : k = h := by omega
      go_wp2_with (first | (refine opG_loadB rfl rfl rfl P.out Tryz.underlying54 rfl rfl ?_) | (refine opG_load1 rfl rfl rfl P.out rfl Tryz.underlying3 rfl ?_) |  fail)
      go_ret
      exact ⟨_, rfl, HO.out.base HS1.out, HB.out⟩
end Go.Proofs.YtabkaflccaklhaaGreat
