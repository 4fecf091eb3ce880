/- journal.Bytes; quitclaimref25.Bytes: contracts. -/
import Derived.Test.YtabkaflccaklhaaQJou2
import Derived.Test.YtabkaflccaklhaaQPac5
set_option linter.unusedSimpArgs false
set_option linter.unusedVariables false
namespace Go.Proofs.Ytabkaflccaklhaa
open Go.RowKit
open Go.Qk hiding rotr b4
open Pac
set_option maxHeartbeats 4000000
set_option maxRecDepth 100000
theorem below_blk {B : Nat} {w w' : World} {k : Nat} {o : Obj} (h : w.heap[k]? = some o) (hb : Below B w w') (hk : k < B) : w'.heap[k]? = some o := by
  rw [hb.block k hk]; exact h
theorem jouBytes_bad (c : List UInt8) (p : ByteArray) (k : Int) (hk : k < 1 ∨ 255 < k) (hc : c.length = 32) (w : World) :
    Calls Try.prog 51 #[idV c, .agg #[.int .i64 k, .string p]] w fun e w' => e = .returned (.tuple #[.string ByteArray.empty, .int .i64 1]) ∧ Below w.heap.size w w' := by
  have HC := hid hc
  have HK := hid hk
  clear hc hk
  go_enter Try.func51, Try.ntmps51
  have HB := hid (grow_refl w)
  apply wp_seq_k; intro _ _; apply wp_region_lit
  refine op_box (l := c) rfl rfl rfl ?_
  intro gx w1 hgl hgu hb hr
  have XL := hid (Nat.le_trans HB.out.size hgl)
  replace HB := hid (Grow.trans HB.out hb)
  have X := hid hr; have XU := hid hgu
  clear hr hgl hgu hb
  try simp only [Act.put, List.setIfInBounds_toArray, List.set_cons_zero, List.set_cons_succ]
  refine op_boxC (cs := #[.int .i64 k, .string p]) rfl rfl rfl rfl ?_
  intro gp w2 hgl hgu hb hr
  have PL := hid (Nat.le_trans HB.out.size hgl)
  replace HB := hid (Grow.trans HB.out hb)
  replace X := hid (grow_block X.out hb)
  have P := hid hr; have PU := hid hgu
  clear hr hgl hgu hb
  try simp only [Act.put, List.setIfInBounds_toArray, List.set_cons_zero, List.set_cons_succ]
  go_wp2_with (first | (refine opG_loadB rfl rfl rfl P.out Try.underlying101 rfl rfl ?_) | (refine opG_load1 rfl rfl rfl P.out rfl Try.underlying3 rfl ?_) | (refine opG_load1 rfl rfl rfl P.out rfl Try.underlying9 rfl ?_) | (refine op_loadId rfl rfl rfl X.out (HC.out) ?_) |  fail)
  refine (jouNext_kind c p k HK.out HC.out _).mono ?_
  rintro e w3 ⟨rfl, hb⟩
  replace HB := hid (Grow.trans HB.out hb)
  replace X := hid (grow_block X.out hb)
  replace P := hid (grow_block P.out hb)
  clear hb
  go_wp2_with (first | (refine opG_loadB rfl rfl rfl P.out Try.underlying101 rfl rfl ?_) | (refine opG_load1 rfl rfl rfl P.out rfl Try.underlying3 rfl ?_) | (refine opG_load1 rfl rfl rfl P.out rfl Try.underlying9 rfl ?_) | (refine op_loadId rfl rfl rfl X.out (HC.out) ?_) |  (refine op_allocstore (l := zero8 32) rfl rfl rfl rfl rfl rfl (fun _ => rfl) ⟨fun _ => rfl, rfl⟩ ?_))
  intro g6 w4 hgl hgu hb hr
  have X6L := hid (Nat.le_trans HB.out.size hgl)
  replace HB := hid (Grow.trans HB.out hb)
  replace X := hid (grow_block X.out hb)
  replace P := hid (grow_block P.out hb)
  have X6 := hid hr; have X6U := hid hgu
  clear hr hgl hgu hb
  try simp only [Act.put, List.setIfInBounds_toArray, List.set_cons_zero, List.set_cons_succ]
  go_wp2_with (first | (refine opG_loadB rfl rfl rfl P.out Try.underlying101 rfl rfl ?_) | (refine opG_load1 rfl rfl rfl P.out rfl Try.underlying3 rfl ?_) | (refine opG_load1 rfl rfl rfl P.out rfl Try.underlying9 rfl ?_) | (refine op_loadId rfl rfl rfl X.out (HC.out) ?_) |  fail)
  go_ret2
  exact ⟨rfl, HB.out⟩
theorem jouBytes (c p : List UInt8) (b : UInt8) (hc : c.length = 32) (hp : p.length ≤ 4194304) (hb : b ≠ 0) (w : World) :
    Calls Try.prog 51 #[idV c, .agg #[.int .i64 (b.toNat : Int), .string (bs p)]] w fun e w' => e = .returned (.tuple #[.string (bs (frameB c b p)), .int .i64 0]) ∧ Below w.heap.size w w' := by
  have HC := hid hc
  have HP := hid hp
  have HBN := hid hb
  have HNL := hid (nextL_length c b p)
  have HU := hid (u8_byte b)
  have HEL := hid (encN_ten p.length (by omega))
  have hsz := bs_size p
  clear hc hp hb
  go_enter Try.func51, Try.ntmps51
  have HB := hid (grow_refl w)
  apply wp_seq_k; intro _ _; apply wp_region_lit
  refine op_box (l := c) rfl rfl rfl ?_
  intro gx w1 hgl hgu hb hr
  have XL := hid (Nat.le_trans HB.out.size hgl)
  replace HB := hid (Grow.trans HB.out hb)
  have X := hid hr; have XU := hid hgu
  clear hr hgl hgu hb
  try simp only [Act.put, List.setIfInBounds_toArray, List.set_cons_zero, List.set_cons_succ]
  refine op_boxC (cs := #[.int .i64 (b.toNat : Int), .string (bs p)]) rfl rfl rfl rfl ?_
  intro gp w2 hgl hgu hb hr
  have PL := hid (Nat.le_trans HB.out.size hgl)
  replace HB := hid (Grow.trans HB.out hb)
  replace X := hid (grow_block X.out hb)
  have P := hid hr; have PU := hid hgu
  clear hr hgl hgu hb
  try simp only [Act.put, List.setIfInBounds_toArray, List.set_cons_zero, List.set_cons_succ]
  go_wp2_with (first | (refine opG_loadB rfl rfl rfl P.out Try.underlying101 rfl rfl ?_) | (refine opG_load1 rfl rfl rfl P.out rfl Try.underlying3 rfl ?_) | (refine opG_load1 rfl rfl rfl P.out rfl Try.underlying9 rfl ?_) | (refine op_loadId rfl rfl rfl X.out (HC.out) ?_) |  fail)
  refine (jouNext c p b HC.out HP.out HBN.out _).mono ?_
  rintro e w3 ⟨rfl, hb⟩
  replace HB := hid (Grow.trans HB.out hb)
  replace X := hid (grow_block X.out hb)
  replace P := hid (grow_block P.out hb)
  clear hb
  go_wp2_with (first | (refine opG_loadB rfl rfl rfl P.out Try.underlying101 rfl rfl ?_) | (refine opG_load1 rfl rfl rfl P.out rfl Try.underlying3 rfl ?_) | (refine opG_load1 rfl rfl rfl P.out rfl Try.underlying9 rfl ?_) | (refine op_loadId rfl rfl rfl X.out (HC.out) ?_) |  (refine op_allocstore (l := nextL c b p) rfl rfl rfl rfl rfl rfl (fun _ => rfl) ⟨fun _ => rfl, HNL.out⟩ ?_))
  intro g6 w4 hgl hgu hb hr
  have X6L := hid (Nat.le_trans HB.out.size hgl)
  replace HB := hid (Grow.trans HB.out hb)
  replace X := hid (grow_block X.out hb)
  replace P := hid (grow_block P.out hb)
  have X6 := hid hr; have X6U := hid hgu
  clear hr hgl hgu hb
  try simp only [Act.put, List.setIfInBounds_toArray, List.set_cons_zero, List.set_cons_succ]
  go_wp2_with (first | (refine op_boxC (cs := #[.slice none 0 0]) rfl rfl rfl rfl ?_) | fail)
  intro g8 w5 hgl hgu hb hr
  have HW := hid (wr_new hgl hgu hr)
  have kX : gx < w4.heap.size := blk_lt X.out
  have kP : gp < w4.heap.size := blk_lt P.out
  have kX6 : g6 < w4.heap.size := blk_lt X6.out
  have HBS := hid (show w.heap.size ≤ w4.heap.size from HB.out.size)
  replace HB := hid (Grow.trans HB.out hb)
  replace X := hid (grow_block X.out hb)
  replace P := hid (grow_block P.out hb)
  replace X6 := hid (grow_block X6.out hb)
  clear hb
  clear hgl hgu hr
  generalize w4.heap.size = B at *
  go_wp2_with fail
  refine (wrByte B g8 74 [] _ (by decide) HW.out).mono ?_
  rintro _ w6 ⟨rfl, hw, hb⟩
  replace HW := hid (show IsWr B w6 g8 [74] from hw)
  replace X := hid (below_blk X.out hb kX)
  replace P := hid (below_blk P.out hb kP)
  replace X6 := hid (below_blk X6.out hb kX6)
  replace HB := hid (show Grow w w6 from Below.trans (show Below w.heap.size w _ from HB.out) (hb.mono HBS.out))
  clear hw hb
  have hu := HU.out
  go_wp2_with (first | (refine opG_loadB rfl rfl rfl P.out Try.underlying101 rfl rfl ?_) | (refine opG_load1 rfl rfl rfl P.out rfl Try.underlying3 rfl ?_) | (refine opG_load1 rfl rfl rfl P.out rfl Try.underlying9 rfl ?_) | (refine op_loadId rfl rfl rfl X.out (HC.out) ?_) | (refine op_loadId rfl rfl rfl X6.out (HNL.out) ?_) |  fail)
  refine (wrByte B g8 b [74] _ (by decide) HW.out).mono ?_
  rintro _ w7 ⟨rfl, hw, hb⟩
  replace HW := hid (show IsWr B w7 g8 [74, b] from hw)
  replace X := hid (below_blk X.out hb kX)
  replace P := hid (below_blk P.out hb kP)
  replace X6 := hid (below_blk X6.out hb kX6)
  replace HB := hid (show Grow w w7 from Below.trans (show Below w.heap.size w _ from HB.out) (hb.mono HBS.out))
  clear hw hb hu
  go_wp2_with (first | (refine opG_loadB rfl rfl rfl P.out Try.underlying101 rfl rfl ?_) | (refine opG_load1 rfl rfl rfl P.out rfl Try.underlying3 rfl ?_) | (refine opG_load1 rfl rfl rfl P.out rfl Try.underlying9 rfl ?_) | (refine op_loadId rfl rfl rfl X.out (HC.out) ?_) | (refine op_loadId rfl rfl rfl X6.out (HNL.out) ?_) |  fail)
  refine (wrText B g8 p [74, b] _ (by have := HP.out; omega) (by simp) HW.out).mono ?_
  rintro _ w8 ⟨rfl, hw, hb⟩
  replace HW := hid (show IsWr B w8 g8 (74 :: b :: textB p) from hw)
  replace X := hid (below_blk X.out hb kX)
  replace P := hid (below_blk P.out hb kP)
  replace X6 := hid (below_blk X6.out hb kX6)
  replace HB := hid (show Grow w w8 from Below.trans (show Below w.heap.size w _ from HB.out) (hb.mono HBS.out))
  clear hw hb
  have HWF := hid (show bs (74 :: b :: textB p) ++ bs ((nextL c b p).take 8) = bs (frameB c b p) by rw [bs_append]; exact congrArg bs (by simp [frameB]))
  have hz1 : (bs (74 :: b :: textB p)).size ≤ 5000000 := by
    rw [bs_size]
    unfold textB
    have := HEL.out
    have := HP.out
    simp only [List.length_append, List.length_cons, List.length_nil]
    omega
  have hz2 : (bs ((nextL c b p).take 8)).size ≤ 8 := by rw [bs_size]; simp; omega
  have hz3 : ¬ 9223372036854775807 < (bs (74 :: b :: textB p)).size + (bs ((nextL c b p).take 8)).size := by omega
  have HT8 := hid (show (((nextL c b p).take 8).length = 8) by rw [List.length_take, HNL.out]; rfl)
  go_wp2_with fail
  (refine' wp_region_head 5 2 [_, _, _, _, _] rfl (by kernel_rfl) (by kernel_rfl) ?hreg1; case' hreg1 => simp only [List.take_succ_cons, List.take_zero, List.zip_cons_cons, List.zip_nil_right, List.drop_succ_cons, List.drop_zero, List.drop_nil])
  (refine' head_val ?dw2 ?de2 ?dr2 ?dh2; (case' dw2 => rfl); (case' de2 => (first | exact fun _ _ _ => trivial | (intro t ht w; cases ht; simp [upE]))); (case' dr2 => (intro w' hw' _; go_simp; with_reducible rfl)); (case' dh2 => (try simp only [Act.put, List.setIfInBounds_toArray, List.set_cons_zero, List.set_cons_succ])))
  (refine' head_call ?cw3 ?ce3 ?cr3 ?cc3 ?ch3; (case' cw3 => rfl); (case' ce3 => (first | exact fun _ _ _ => trivial | (intro t ht w; cases ht; simp [upE]))); (case' cr3 => (intro w'; go_simp; first | exact ⟨rfl, rfl⟩ | with_reducible rfl)); (case' cc3 => (intro w' hw' _; exact (wrString B g8 (74 :: b :: textB p) w' (HW.out.grow hw')).mono (fun e w2 ⟨h1, h2⟩ => ⟨h1, h2 ▸ Below.refl _ _⟩))); (case' ch3 => (try simp only [Act.put, List.setIfInBounds_toArray, List.set_cons_zero, List.set_cons_succ])))
  (refine' head_val ?dw4 ?de4 ?dr4 ?dh4; (case' dw4 => rfl); (case' de4 => (first | exact fun _ _ _ => trivial | (intro t ht w; cases ht; simp [upE]))); (case' dr4 => (intro w' hw' _; go_simp; with_reducible rfl)); (case' dh4 => (try simp only [Act.put, List.setIfInBounds_toArray, List.set_cons_zero, List.set_cons_succ])))
  (refine' head_conv (v := .string (bs ((nextL c b p).take 8))) ?dw5 ?de5 rfl ?dx5 ?dr5 ?dh5; (case' dw5 => rfl); (case' de5 => (first | exact fun _ _ _ => trivial | (intro t ht w; cases ht; simp [upE]))); (case' dx5 => rfl); (case' dr5 => (intro w' hw' hE; exact run_str w' 51 5 9 Try.underlying51 Try.underlying5 Try.underlying9 g6 0 32 ((nextL c b p).take 8) (fun i hi => by rw [HT8.out] at hi; rw [Nat.zero_add]; have h := cell_u8 (grow_block X6.out hw') (grow_refl w') i (by rw [HNL.out]; omega); rw [h]; simp [b8, List.getD_eq_getElem?_getD, List.getElem?_take, hi]) 8 HT8.out)); (case' dh5 => (try simp only [Act.put, List.setIfInBounds_toArray, List.set_cons_zero, List.set_cons_succ])))
  (refine' head_val ?dw6 ?de6 ?dr6 ?dh6; (case' dw6 => rfl); (case' de6 => (first | exact fun _ _ _ => trivial | (intro t ht w; cases ht; simp [upE]))); (case' dr6 => (intro w' hw' _; go_simp; with_reducible rfl)); (case' dh6 => (try simp only [Act.put, List.setIfInBounds_toArray, List.set_cons_zero, List.set_cons_succ])))
  refine head_nil ?_
  intro w5 hb _
  replace HB := hid (Grow.trans HB.out hb)
  replace X := hid (grow_block X.out hb)
  replace P := hid (grow_block P.out hb)
  replace X6 := hid (grow_block X6.out hb)
  clear hb
  go_wp2_with fail
  go_ret2
  exact ⟨by rw [← HWF.out]; rfl, HB.out⟩
end Go.Proofs.Ytabkaflccaklhaa
