/- journal.Begin, Next; quitclaimref25.Begin, Next, Wrong; pack.Reader.Byte where there is nothing: contracts. -/
import Derived.Test.YtabkaflccaklhaaQJouP
import Derived.Test.YtabkaflccaklhaaQPac9
set_option linter.unusedSimpArgs false
set_option linter.unusedVariables false
namespace Go.Proofs.Ytabkaflccaklhaa
open Go.RowKit
open Go.Qk hiding rotr b4
open Pac
set_option maxHeartbeats 1000000
set_option maxRecDepth 100000
theorem strNil (w : World) : StrRow w none [] := ⟨by simp, fun h => absurd rfl h⟩
theorem beginTx : (textOf beginName []).length ≤ 140737488355328 := by decide
theorem jouBegin (w : World) : Calls Try.prog 52 #[] w fun e w' => e = .returned (idV beginL) ∧ Below w.heap.size w w' := by
  go_enter Try.func52, Try.ntmps52
  apply wp_seq_k; intro _ _; apply wp_region_lit
  refine op_alloc rfl rfl ?_
  intro gr W hgl hgu hb hr
  have HR := hid hr; have HB := hid hb; have HRL := hid hgl; have HRU := hid hgu
  clear hr hb hgl hgu
  try simp only [Act.put, List.setIfInBounds_toArray, List.set_cons_zero, List.set_cons_succ]
  go_wp2_with fail
  refine (tagOf beginName none 0 0 [] _ (strNil _) rfl (by decide) beginTx).mono ?_
  rintro e w1 ⟨rfl, hb⟩
  replace HR := hid (grow_block HR.out hb)
  replace HB := hid (Grow.trans HB.out hb)
  clear hb
  rw [show tagSum beginName [] = beginL from rfl]
  go_wp2_with (first |  (refine op_allocstore (l := beginL) rfl rfl rfl rfl rfl rfl (fun _ => rfl) ⟨fun _ => rfl, beginL_length⟩ ?_))
  intro gx w2 hgl hgu hb hr
  have XL := hid (Nat.le_trans HB.out.size hgl)
  replace HR := hid (grow_block HR.out hb)
  replace HB := hid (Grow.trans HB.out hb)
  have X := hid hr; have XU := hid hgu
  clear hr hgl hgu hb
  try simp only [Act.put, List.setIfInBounds_toArray, List.set_cons_zero, List.set_cons_succ]
  go_wp2_with (first | (refine op_loadId rfl rfl rfl X.out (beginL_length) ?_) |  (refine op_buildId rfl rfl ?_) | (refine op_storeId (l := beginL) rfl rfl rfl rfl rfl HR.out (by rfl) (beginL_length) ?_))
  intro wz hz _ hbz
  have HZ := hid hz; have HBZ := hid (hbz _ _ HB.out HRL.out)
  clear hz hbz
  go_wp2_with fail
  refine bodyPost_ret (ret_id rfl rfl HZ.out (beginL_length)) rfl ⟨?_, HBZ.out⟩
  rfl
theorem begin25 (w : World) : Calls Try.prog 53 #[] w fun e w' => e = .returned (idV beginL) ∧ Below w.heap.size w w' := by
  go_enter Try.func53, Try.ntmps53
  apply wp_seq_k; intro _ _; apply wp_region_lit
  refine op_alloc rfl rfl ?_
  intro gr W hgl hgu hb hr
  have HR := hid hr; have HB := hid hb; have HRL := hid hgl; have HRU := hid hgu
  clear hr hb hgl hgu
  try simp only [Act.put, List.setIfInBounds_toArray, List.set_cons_zero, List.set_cons_succ]
  go_wp2_with fail
  refine (refOf beginName none 0 0 [] _ (strNil _) rfl (by decide) beginTx).mono ?_
  rintro e w1 ⟨rfl, hb⟩
  replace HR := hid (grow_block HR.out hb)
  replace HB := hid (Grow.trans HB.out hb)
  clear hb
  go_wp2_with (first |  (refine op_buildId rfl rfl ?_) | (refine op_storeId (l := beginL) rfl rfl rfl rfl rfl HR.out (by rfl) (beginL_length) ?_))
  intro wz hz _ hbz
  have HZ := hid hz; have HBZ := hid (hbz _ _ HB.out HRL.out)
  clear hz hbz
  go_wp2_with fail
  refine bodyPost_ret (ret_id rfl rfl HZ.out (beginL_length)) rfl ⟨?_, HBZ.out⟩
  rfl
theorem frameTx (c p : List UInt8) (b : UInt8) (hc : c.length = 32) (hp : p.length ≤ 100000000) : (textOf frameName [bs c, bs [b], bs p]).length ≤ 140737488355328 := by
  unfold textOf partsOf
  simp only [List.flatMap_cons, List.flatMap_nil, List.length_cons, List.length_append, be_length, bl_length, bs_size, List.length_nil, List.length_singleton]
  have : frameName.size = 5 := rfl
  omega
theorem u8_byte (b : UInt8) : IntKind.u8.wrap (b.toNat : Int) = (b.toNat : Int) := by
  have := b.toNat_lt
  rw [IntKind.wrap_u8]
  omega
theorem jouNext (c p : List UInt8) (b : UInt8) (hc : c.length = 32) (hp : p.length ≤ 4194304) (hb : b ≠ 0) (w : World) :
    Calls Try.prog 56 #[idV c, .agg #[.int .i64 (b.toNat : Int), .string (bs p)]] w fun e w' => e = .returned (.tuple #[idV (nextL c b p), .int .i64 0]) ∧ Below w.heap.size w w' := by
  have HC := hid hc
  have HTX := hid (frameTx c p b hc (by omega))
  have HNL := hid (nextL_length c b p)
  have HU := hid (u8_byte b)
  have h1 : (1 : Int) ≤ (b.toNat : Int) := by
    have : b.toNat ≠ 0 := fun e => hb (UInt8.toNat_inj.1 e)
    omega
  have h2 : (b.toNat : Int) ≤ 255 := by have := b.toNat_lt; omega
  have h3 : ((bs p).size : Int) ≤ 4194304 := by rw [bs_size]; omega
  have hd1 : decide ((b.toNat : Int) < 1) = false := by simp; omega
  have hd2 : decide ((255 : Int) < (b.toNat : Int)) = false := by simp; omega
  have hd3 : decide ((4194304 : Int) < ((bs p).size : Int)) = false := by simp; omega
  clear hc hp hb
  go_enter Try.func56, Try.ntmps56
  have HB := hid (grow_refl w)
  apply wp_seq_k; intro _ _; apply wp_region_lit
  refine op_box (l := c) rfl rfl rfl ?_
  intro gx w1 hgl hgu hb hr
  have XL := hid (Nat.le_trans HB.out.size hgl)
  replace HB := hid (Grow.trans HB.out hb)
  have X := hid hr; have XU := hid hgu
  clear hr hgl hgu hb
  try simp only [Act.put, List.setIfInBounds_toArray, List.set_cons_zero, List.set_cons_succ]
  refine op_boxC (cs := #[.int .i64 (b.toNat : Int), .string (bs p)]) rfl rfl rfl rfl ?_
  intro gp w2 hgl hgu hb hr
  have PL := hid (Nat.le_trans HB.out.size hgl)
  replace HB := hid (Grow.trans HB.out hb)
  replace X := hid (grow_block X.out hb)
  have P := hid hr; have PU := hid hgu
  clear hr hgl hgu hb
  try simp only [Act.put, List.setIfInBounds_toArray, List.set_cons_zero, List.set_cons_succ]
  refine op_alloc rfl rfl ?_
  intro gr w3 hgl hgu hb hr
  have HRL := hid (Nat.le_trans HB.out.size hgl)
  replace HB := hid (Grow.trans HB.out hb)
  replace X := hid (grow_block X.out hb)
  replace P := hid (grow_block P.out hb)
  have HR := hid hr; have HRU := hid hgu
  clear hr hgl hgu hb
  try simp only [Act.put, List.setIfInBounds_toArray, List.set_cons_zero, List.set_cons_succ]
  go_wp2_with (first | (refine opG_loadB rfl rfl rfl P.out Try.underlying101 rfl rfl ?_) | (refine opG_load1 rfl rfl rfl P.out rfl Try.underlying3 rfl ?_) | (refine opG_load1 rfl rfl rfl P.out rfl Try.underlying9 rfl ?_) | (refine op_loadId rfl rfl rfl X.out (HC.out) ?_) |  fail)
  (refine' wp_region_head 13 2 [_, _, _, _, _, _, _, _, _, _, _, _, _] rfl (by kernel_rfl) (by kernel_rfl) ?hreg1; case' hreg1 => simp only [List.take_succ_cons, List.take_zero, List.zip_cons_cons, List.zip_nil_right, List.drop_succ_cons, List.drop_zero, List.drop_nil])
  (refine' head_val ?dw2 ?de2 ?dr2 ?dh2; (case' dw2 => rfl); (case' de2 => (first | exact fun _ _ _ => trivial | (intro t ht w; cases ht; simp [upE]))); (case' dr2 => (intro w' hw' _; go_simp; with_reducible rfl)); (case' dh2 => (try simp only [Act.put, List.setIfInBounds_toArray, List.set_cons_zero, List.set_cons_succ])))
  (refine' head_conv (v := .string (bs c)) ?dw3 ?de3 rfl ?dx3 ?dr3 ?dh3; (case' dw3 => rfl); (case' de3 => (first | exact fun _ _ _ => trivial | (intro t ht w; cases ht; simp [upE]))); (case' dx3 => rfl); (case' dr3 => (intro w' hw' hE; exact run_strId (grow_block X.out hw') HC.out)); (case' dh3 => (try simp only [Act.put, List.setIfInBounds_toArray, List.set_cons_zero, List.set_cons_succ])))
  (refine' head_val ?dw4 ?de4 ?dr4 ?dh4; (case' dw4 => rfl); (case' de4 => (first | exact fun _ _ _ => trivial | (intro t ht w; cases ht; simp [upE]))); (case' dr4 => (intro w' hw' _; go_simp; with_reducible rfl)); (case' dh4 => (try simp only [Act.put, List.setIfInBounds_toArray, List.set_cons_zero, List.set_cons_succ])))
  (refine' head_load1 rfl ?_ rfl rfl P.out rfl Try.underlying3 rfl ?_; (first | exact fun _ _ _ => trivial | (intro t ht w; cases ht; simp [upE])); try simp only [Act.put, List.setIfInBounds_toArray, List.set_cons_zero, List.set_cons_succ])
  (refine' head_val (v := .int .u8 (b.toNat : Int)) ?dw5 ?de5 ?dr5 ?dh5; (case' dw5 => rfl); (case' de5 => (first | exact fun _ _ _ => trivial | (intro t ht w; cases ht; simp [upE]))); (case' dr5 => (intro w' hw' hE; (go_simp; try rw [HU.out]))); (case' dh5 => (try simp only [Act.put, List.setIfInBounds_toArray, List.set_cons_zero, List.set_cons_succ])))
  (refine' head_row [.int .u8 (b.toNat : Int)] 1 5 ?_ ?_ ?_; (· rfl); (· intro w; first | (go_simp; done) | (go_simp; first | with_reducible rfl | rfl)); intro g27; simp only [Act.put, List.setIfInBounds_toArray, List.set_cons_zero, List.set_cons_succ])
  (refine' head_conv (v := .string (bs [b])) ?dw6 ?de6 rfl ?dx6 ?dr6 ?dh6; (case' dw6 => rfl); (case' de6 => (first | exact fun _ _ _ => trivial | (intro t ht w; cases ht; simp [upE]))); (case' dx6 => rfl); (case' dr6 => (intro w' hw' hE; exact convB (hE 27 (by decide)))); (case' dh6 => (try simp only [Act.put, List.setIfInBounds_toArray, List.set_cons_zero, List.set_cons_succ])))
  (refine' head_val ?dw7 ?de7 ?dr7 ?dh7; (case' dw7 => rfl); (case' de7 => (first | exact fun _ _ _ => trivial | (intro t ht w; cases ht; simp [upE]))); (case' dr7 => (intro w' hw' _; go_simp; with_reducible rfl)); (case' dh7 => (try simp only [Act.put, List.setIfInBounds_toArray, List.set_cons_zero, List.set_cons_succ])))
  (refine' head_load1 rfl ?_ rfl rfl P.out rfl Try.underlying9 rfl ?_; (first | exact fun _ _ _ => trivial | (intro t ht w; cases ht; simp [upE])); try simp only [Act.put, List.setIfInBounds_toArray, List.set_cons_zero, List.set_cons_succ])
  (refine' head_row [.string (bs c), .string (bs [b]), .string (bs p)] 3 9 ?_ ?_ ?_; (· rfl); (· intro w; first | (go_simp; done) | (go_simp; first | with_reducible rfl | rfl)); intro g31; simp only [Act.put, List.setIfInBounds_toArray, List.set_cons_zero, List.set_cons_succ])
  (refine' head_call ?cw8 ?ce8 ?cr8 ?cc8 ?ch8; (case' cw8 => rfl); (case' ce8 => (first | exact fun _ _ _ => trivial | (intro t ht w; cases ht; simp [upE]))); (case' cr8 => (intro w'; go_simp; first | exact ⟨rfl, rfl⟩ | with_reducible rfl)); (case' cc8 => (intro w' hw' hE; exact tagOf frameName _ _ _ [bs c, bs [b], bs p] w' (strRow_cells (row_at (hE 31 (by decide))) (by simp)) rfl (by decide) HTX.out)); (case' ch8 => (try simp only [Act.put, List.setIfInBounds_toArray, List.set_cons_zero, List.set_cons_succ])))
  (refine' head_val ?dw9 ?de9 ?dr9 ?dh9; (case' dw9 => rfl); (case' de9 => (first | exact fun _ _ _ => trivial | (intro t ht w; cases ht; simp [upE]))); (case' dr9 => (intro w' hw' _; go_simp; with_reducible rfl)); (case' dh9 => (try simp only [Act.put, List.setIfInBounds_toArray, List.set_cons_zero, List.set_cons_succ]))); (refine' head_val ?dw10 ?de10 ?dr10 ?dh10; (case' dw10 => rfl); (case' de10 => (first | exact fun _ _ _ => trivial | (intro t ht w; cases ht; simp [upE]))); (case' dr10 => (intro w' hw' _; go_simp; with_reducible rfl)); (case' dh10 => (try simp only [Act.put, List.setIfInBounds_toArray, List.set_cons_zero, List.set_cons_succ])))
  refine head_nil ?_
  intro w4 hb _
  replace HB := hid (Grow.trans HB.out hb)
  replace X := hid (grow_block X.out hb)
  replace P := hid (grow_block P.out hb)
  replace HR := hid (grow_block HR.out hb)
  clear hb
  go_wp2_with (first | (refine opG_loadB rfl rfl rfl P.out Try.underlying101 rfl rfl ?_) | (refine opG_load1 rfl rfl rfl P.out rfl Try.underlying3 rfl ?_) | (refine opG_load1 rfl rfl rfl P.out rfl Try.underlying9 rfl ?_) | (refine op_loadId rfl rfl rfl X.out (HC.out) ?_) |  (refine op_buildId rfl rfl ?_) | (refine op_storeId (l := nextL c b p) rfl rfl rfl rfl rfl HR.out (by rfl) (HNL.out) ?_))
  intro wz hz _ hbz
  have HZ := hid hz; have HBZ := hid (hbz _ _ HB.out HRL.out)
  clear hz hbz
  go_wp2_with fail
  refine bodyPost_ret (ret_idt rfl rfl HZ.out (HNL.out)) rfl ⟨?_, HBZ.out⟩
  rfl
end Go.Proofs.Ytabkaflccaklhaa
