/- journal.Next where it may not be; quitclaimref25.Next, Wrong; pack.Reader.Byte where there is nothing: contracts. -/
import Derived.Test.YtabkaflccaklhaaQJou1
set_option linter.unusedSimpArgs false
set_option linter.unusedVariables false
namespace Go.Proofs.Ytabkaflccaklhaa
open Go.RowKit
open Go.Qk hiding rotr b4
open Pac
set_option maxHeartbeats 1000000
set_option maxRecDepth 100000
theorem jouNext_kind (c : List UInt8) (p : ByteArray) (k : Int) (hk : k < 1 ∨ 255 < k) (hc : c.length = 32) (w : World) :
    Calls Try.prog 56 #[idV c, .agg #[.int .i64 k, .string p]] w fun e w' => e = .returned (.tuple #[idV (zero8 32), .int .i64 1]) ∧ Below w.heap.size w w' := by
  have HC := hid hc
  clear hc
  go_enter Try.func56, Try.ntmps56
  have HB := hid (grow_refl w)
  apply wp_seq_k; intro _ _; apply wp_region_lit
  refine op_box (l := c) rfl rfl rfl ?_
  intro gx w1 hgl hgu hb hr
  have XL := hid (Nat.le_trans HB.out.size hgl)
  replace HB := hid (Grow.trans HB.out hb)
  have X := hid hr; have XU := hid hgu
  clear hr hgl hgu hb
  try simp only [Act.put, List.setIfInBounds_toArray, List.set_cons_zero, List.set_cons_succ]
  refine op_boxC (cs := #[.int .i64 k, .string p]) rfl rfl rfl rfl ?_
  intro gp w2 hgl hgu hb hr
  have PL := hid (Nat.le_trans HB.out.size hgl)
  replace HB := hid (Grow.trans HB.out hb)
  replace X := hid (grow_block X.out hb)
  have P := hid hr; have PU := hid hgu
  clear hr hgl hgu hb
  try simp only [Act.put, List.setIfInBounds_toArray, List.set_cons_zero, List.set_cons_succ]
  refine op_alloc rfl rfl ?_
  intro gr w3 hgl hgu hb hr
  have HRL := hid (Nat.le_trans HB.out.size hgl)
  replace HB := hid (Grow.trans HB.out hb)
  replace X := hid (grow_block X.out hb)
  replace P := hid (grow_block P.out hb)
  have HR := hid hr; have HRU := hid hgu
  clear hr hgl hgu hb
  try simp only [Act.put, List.setIfInBounds_toArray, List.set_cons_zero, List.set_cons_succ]
  by_cases h1 : k < 1
  · have hd1 : decide (k < 1) = true := by simp [h1]
    go_wp2_with (first | (refine opG_loadB rfl rfl rfl P.out Try.underlying101 rfl rfl ?_) | (refine opG_load1 rfl rfl rfl P.out rfl Try.underlying3 rfl ?_) | (refine opG_load1 rfl rfl rfl P.out rfl Try.underlying9 rfl ?_) |  (refine op_buildId rfl rfl ?_) | (refine op_storeId (l := zero8 32) rfl rfl rfl rfl rfl HR.out (by rfl) (rfl) ?_))
    intro wz hz _ hbz
    have HZ := hid hz; have HBZ := hid (hbz _ _ HB.out HRL.out)
    clear hz hbz
    go_wp2_with fail
    refine bodyPost_ret (ret_idt rfl rfl HZ.out (rfl)) rfl ⟨?_, HBZ.out⟩
    rfl
  · have hd1 : decide (k < 1) = false := by simp; omega
    have hd2 : decide (255 < k) = true := by simp; omega
    go_wp2_with (first | (refine opG_loadB rfl rfl rfl P.out Try.underlying101 rfl rfl ?_) | (refine opG_load1 rfl rfl rfl P.out rfl Try.underlying3 rfl ?_) | (refine opG_load1 rfl rfl rfl P.out rfl Try.underlying9 rfl ?_) |  (refine op_buildId rfl rfl ?_) | (refine op_storeId (l := zero8 32) rfl rfl rfl rfl rfl HR.out (by rfl) (rfl) ?_))
    intro wz hz _ hbz
    have HZ := hid hz; have HBZ := hid (hbz _ _ HB.out HRL.out)
    clear hz hbz
    go_wp2_with fail
    refine bodyPost_ret (ret_idt rfl rfl HZ.out (rfl)) rfl ⟨?_, HBZ.out⟩
    rfl
theorem next25 (c p : List UInt8) (b : UInt8) (hc : c.length = 32) (hp : p.length ≤ 4194304) (w : World) :
    Calls Try.prog 59 #[idV c, .agg #[.int .i64 (b.toNat : Int), .string (bs p)]] w fun e w' => e = .returned (idV (nextL c b p)) ∧ Below w.heap.size w w' := by
  have HC := hid hc
  have HTX := hid (frameTx c p b hc (by omega))
  have HNL := hid (nextL_length c b p)
  have HU := hid (u8_byte b)
  clear hc hp
  go_enter Try.func59, Try.ntmps59
  have HB := hid (grow_refl w)
  apply wp_seq_k; intro _ _; apply wp_region_lit
  refine op_box (l := c) rfl rfl rfl ?_
  intro gx w1 hgl hgu hb hr
  have XL := hid (Nat.le_trans HB.out.size hgl)
  replace HB := hid (Grow.trans HB.out hb)
  have X := hid hr; have XU := hid hgu
  clear hr hgl hgu hb
  try simp only [Act.put, List.setIfInBounds_toArray, List.set_cons_zero, List.set_cons_succ]
  refine op_boxC (cs := #[.int .i64 (b.toNat : Int), .string (bs p)]) rfl rfl rfl rfl ?_
  intro gp w2 hgl hgu hb hr
  have PL := hid (Nat.le_trans HB.out.size hgl)
  replace HB := hid (Grow.trans HB.out hb)
  replace X := hid (grow_block X.out hb)
  have P := hid hr; have PU := hid hgu
  clear hr hgl hgu hb
  try simp only [Act.put, List.setIfInBounds_toArray, List.set_cons_zero, List.set_cons_succ]
  refine op_alloc rfl rfl ?_
  intro gr w3 hgl hgu hb hr
  have HRL := hid (Nat.le_trans HB.out.size hgl)
  replace HB := hid (Grow.trans HB.out hb)
  replace X := hid (grow_block X.out hb)
  replace P := hid (grow_block P.out hb)
  have HR := hid hr; have HRU := hid hgu
  clear hr hgl hgu hb
  try simp only [Act.put, List.setIfInBounds_toArray, List.set_cons_zero, List.set_cons_succ]
  go_wp2_with (first | (refine opG_loadB rfl rfl rfl P.out Try.underlying108 rfl rfl ?_) | (refine opG_load1 rfl rfl rfl P.out rfl Try.underlying3 rfl ?_) | (refine opG_load1 rfl rfl rfl P.out rfl Try.underlying9 rfl ?_) | (refine op_loadId rfl rfl rfl X.out (HC.out) ?_) |  fail)
  (refine' wp_region_head 11 1 [_, _, _, _, _, _, _, _, _, _, _] rfl (by kernel_rfl) (by kernel_rfl) ?hreg1; case' hreg1 => simp only [List.take_succ_cons, List.take_zero, List.zip_cons_cons, List.zip_nil_right, List.drop_succ_cons, List.drop_zero, List.drop_nil])
  (refine' head_loadId (x := _) rfl ?_ rfl rfl X.out (HC.out) ?_; (first | exact fun _ _ _ => trivial | (intro t ht w; cases ht; simp [upE])); try simp only [Act.put, List.setIfInBounds_toArray, List.set_cons_zero, List.set_cons_succ])
  (refine' head_call ?cw2 ?ce2 ?cr2 ?cc2 ?ch2; (case' cw2 => rfl); (case' ce2 => (first | exact fun _ _ _ => trivial | (intro t ht w; cases ht; simp [upE]))); (case' cr2 => (intro w'; go_simp; first | exact ⟨rfl, rfl⟩ | with_reducible rfl)); (case' cc2 => (intro w' hw' _; exact ref3Bytes c HC.out w')); (case' ch2 => (try simp only [Act.put, List.setIfInBounds_toArray, List.set_cons_zero, List.set_cons_succ])))
  (refine' head_val ?dw3 ?de3 ?dr3 ?dh3; (case' dw3 => rfl); (case' de3 => (first | exact fun _ _ _ => trivial | (intro t ht w; cases ht; simp [upE]))); (case' dr3 => (intro w' hw' _; go_simp; with_reducible rfl)); (case' dh3 => (try simp only [Act.put, List.setIfInBounds_toArray, List.set_cons_zero, List.set_cons_succ])))
  (refine' head_load1 rfl ?_ rfl rfl P.out rfl Try.underlying3 rfl ?_; (first | exact fun _ _ _ => trivial | (intro t ht w; cases ht; simp [upE])); try simp only [Act.put, List.setIfInBounds_toArray, List.set_cons_zero, List.set_cons_succ])
  (refine' head_val (v := .int .u8 (b.toNat : Int)) ?dw4 ?de4 ?dr4 ?dh4; (case' dw4 => rfl); (case' de4 => (first | exact fun _ _ _ => trivial | (intro t ht w; cases ht; simp [upE]))); (case' dr4 => (intro w' hw' hE; (go_simp; try rw [HU.out]))); (case' dh4 => (try simp only [Act.put, List.setIfInBounds_toArray, List.set_cons_zero, List.set_cons_succ])))
  (refine' head_row [.int .u8 (b.toNat : Int)] 1 5 ?_ ?_ ?_; (· rfl); (· intro w; first | (go_simp; done) | (go_simp; first | with_reducible rfl | rfl)); intro g10; simp only [Act.put, List.setIfInBounds_toArray, List.set_cons_zero, List.set_cons_succ])
  (refine' head_conv (v := .string (bs [b])) ?dw5 ?de5 rfl ?dx5 ?dr5 ?dh5; (case' dw5 => rfl); (case' de5 => (first | exact fun _ _ _ => trivial | (intro t ht w; cases ht; simp [upE]))); (case' dx5 => rfl); (case' dr5 => (intro w' hw' hE; exact convB (hE 10 (by decide)))); (case' dh5 => (try simp only [Act.put, List.setIfInBounds_toArray, List.set_cons_zero, List.set_cons_succ])))
  (refine' head_val ?dw6 ?de6 ?dr6 ?dh6; (case' dw6 => rfl); (case' de6 => (first | exact fun _ _ _ => trivial | (intro t ht w; cases ht; simp [upE]))); (case' dr6 => (intro w' hw' _; go_simp; with_reducible rfl)); (case' dh6 => (try simp only [Act.put, List.setIfInBounds_toArray, List.set_cons_zero, List.set_cons_succ])))
  (refine' head_load1 rfl ?_ rfl rfl P.out rfl Try.underlying9 rfl ?_; (first | exact fun _ _ _ => trivial | (intro t ht w; cases ht; simp [upE])); try simp only [Act.put, List.setIfInBounds_toArray, List.set_cons_zero, List.set_cons_succ])
  (refine' head_row [.string (bs c), .string (bs [b]), .string (bs p)] 3 9 ?_ ?_ ?_; (· rfl); (· intro w; first | (go_simp; done) | (go_simp; first | with_reducible rfl | rfl)); intro g14; simp only [Act.put, List.setIfInBounds_toArray, List.set_cons_zero, List.set_cons_succ])
  (refine' head_call ?cw7 ?ce7 ?cr7 ?cc7 ?ch7; (case' cw7 => rfl); (case' ce7 => (first | exact fun _ _ _ => trivial | (intro t ht w; cases ht; simp [upE]))); (case' cr7 => (intro w'; go_simp; first | exact ⟨rfl, rfl⟩ | with_reducible rfl)); (case' cc7 => (intro w' hw' hE; exact refOf frameName _ _ _ [bs c, bs [b], bs p] w' (strRow_cells (row_at (hE 14 (by decide))) (by simp)) rfl (by decide) HTX.out)); (case' ch7 => (try simp only [Act.put, List.setIfInBounds_toArray, List.set_cons_zero, List.set_cons_succ])))
  refine head_nil ?_
  intro w4 hb _
  replace HB := hid (Grow.trans HB.out hb)
  replace X := hid (grow_block X.out hb)
  replace P := hid (grow_block P.out hb)
  replace HR := hid (grow_block HR.out hb)
  clear hb
  go_wp2_with (first | (refine opG_loadB rfl rfl rfl P.out Try.underlying108 rfl rfl ?_) | (refine opG_load1 rfl rfl rfl P.out rfl Try.underlying3 rfl ?_) | (refine opG_load1 rfl rfl rfl P.out rfl Try.underlying9 rfl ?_) | (refine op_loadId rfl rfl rfl X.out (HC.out) ?_) |  (refine op_buildId rfl rfl ?_) | (refine op_storeId (l := nextL c b p) rfl rfl rfl rfl rfl HR.out (by rfl) (HNL.out) ?_))
  intro wz hz _ hbz
  have HZ := hid hz; have HBZ := hid (hbz _ _ HB.out HRL.out)
  clear hz hbz
  go_wp2_with fail
  refine bodyPost_ret (ret_id rfl rfl HZ.out (HNL.out)) rfl ⟨?_, HBZ.out⟩
  rfl
def wrongN (k : Int) (n : Nat) : Int := if k < 1 ∨ 255 < k then 1 else if 4194304 < n then 4 else 0
theorem rdByte_err (g : Nat) (L : List UInt8) (p : Nat) (e : Int) (he : e ≠ 0) (w : World) (hg : w.heap[g]? = some (rdOb L p e)) :
    Calls Try.prog 54 #[ptrV g] w fun r w' => r = .returned (.int .u8 0) ∧ w' = w := by
  have HT := hid (rdTake_err g L p e 1 he w hg)
  clear hg he
  unfold ptrV at *
  go_enter Try.func54, Try.ntmps54
  have HB := hid (grow_refl w)
  go_wp2_with fail
  refine HT.out.mono ?_
  rintro _ w1 ⟨rfl, rfl⟩
  go_wp2_with fail
  go_ret
  exact ⟨rfl, rfl⟩
theorem rdByte_short (g : Nat) (L : List UInt8) (hL : L.length ≤ 1000000000) (w : World) (hg : w.heap[g]? = some (rdOb L L.length 0)) :
    Calls Try.prog 54 #[ptrV g] w fun r w' => r = .returned (.int .u8 0) ∧ w'.heap[g]? = some (rdOb L L.length 2) ∧ Fr (fun k => k = g) w w' := by
  have HT := hid (rdTake_short g L L.length 1 (Nat.le_refl _) hL (by omega) (by omega) w hg)
  clear hg
  unfold ptrV at *
  go_enter Try.func54, Try.ntmps54
  have HB := hid (grow_refl w)
  go_wp2_with fail
  refine HT.out.mono ?_
  rintro _ w1 ⟨rfl, hg, hf⟩
  have HG1 := hid hg
  have HF1 := hid hf
  clear hg hf HT
  go_wp2_with fail
  go_ret
  exact ⟨rfl, HG1.out, HF1.out⟩
end Go.Proofs.Ytabkaflccaklhaa
