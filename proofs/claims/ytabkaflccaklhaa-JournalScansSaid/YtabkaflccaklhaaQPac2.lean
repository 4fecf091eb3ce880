/- pack.Reader: take, back, Num: contracts. -/
import Derived.Test.YtabkaflccaklhaaQPac1
import Derived.Test.YtabkaflccaklhaaQGoto
import Derived.Laws.BitsAllLaws
import Derived.IntWalk
set_option linter.unusedSimpArgs false
set_option linter.unusedVariables false
namespace Go.Proofs.Ytabkaflccaklhaa
open Go.RowKit
open Go.Qk hiding rotr b4
open Pac
set_option maxHeartbeats 1000000
set_option maxRecDepth 100000
def backE (e e2 : Int) : Int := if e = 0 then e2 else e
abbrev rdOb (L : List UInt8) (p : Nat) (e : Int) : Obj := .cells #[.string (bs L), .int .i64 (p : Int), .int .i64 e] 150 (0, 0)
theorem infoInt' : (Try.prog.info? 3).map (·.size) = some 1 := by kernel_rfl
theorem infoErrno : (Try.prog.info? 34).map (·.size) = some 1 := by kernel_rfl
theorem rdTake_err (g : Nat) (L : List UInt8) (p : Nat) (e n : Int) (he : e ≠ 0) (w : World) (hg : w.heap[g]? = some (rdOb L p e)) :
    Calls Try.prog 116 #[ptrV g, .int .i64 n] w fun r w' => r = .returned (.tuple #[.string ByteArray.empty, .bool false]) ∧ w = w' := by
  have HG := hid hg
  have t1 : (e != 0) = true := by simp [he]
  clear hg he
  unfold ptrV
  go_enter Try.func116, Try.ntmps116
  have HB := hid (grow_refl w)
  go_wp2_with (first | (refine opG_load1 (i := 0) (v := (.string (bs L))) rfl rfl rfl HG.out rfl Try.underlying9 rfl ?_) | (refine opG_load1 (i := 1) (v := (.int .i64 (p : Int))) rfl rfl rfl HG.out rfl Try.underlying3 rfl ?_) | (refine opG_load1 (i := 2) (v := (.int .i64 e)) rfl rfl rfl HG.out rfl Try.underlying34 rfl ?_) |  fail)
  go_ret2
  exact ⟨rfl, rfl⟩
theorem rdTake_short (g : Nat) (L : List UInt8) (p n : Nat) (hp : p ≤ L.length) (hL : L.length ≤ 1000000000) (hn : L.length - p < n) (hn2 : n ≤ 9223372036854775807) (w : World) (hg : w.heap[g]? = some (rdOb L p 0)) :
    Calls Try.prog 116 #[ptrV g, .int .i64 (n : Int)] w fun r w' => r = .returned (.tuple #[.string ByteArray.empty, .bool false]) ∧ w'.heap[g]? = some (rdOb L p 2) ∧ Fr (fun k => k = g) w w' := by
  have HG := hid hg
  have hsz := bs_size L
  have wsub : IntKind.i64.wrap ((L.length : Int) - (p : Int)) = (L.length : Int) - (p : Int) := IntWalk.i64_in _ (by omega)
  clear hg
  unfold ptrV
  go_enter Try.func116, Try.ntmps116
  have HB := hid (grow_refl w)
  go_wp2_with (first | (refine opG_load1 (i := 0) (v := (.string (bs L))) rfl rfl rfl HG.out rfl Try.underlying9 rfl ?_) | (refine opG_load1 (i := 1) (v := (.int .i64 (p : Int))) rfl rfl rfl HG.out rfl Try.underlying3 rfl ?_) | (refine opG_load1 (i := 2) (v := (.int .i64 0)) rfl rfl rfl HG.out rfl Try.underlying34 rfl ?_) |  fail)
  (refine' wp_region_head 12 0 [_, _, _, _, _, _, _, _, _, _, _, _] rfl (by kernel_rfl) (by kernel_rfl) ?hreg1; case' hreg1 => simp only [List.take_succ_cons, List.take_zero, List.zip_cons_cons, List.zip_nil_right, List.drop_succ_cons, List.drop_zero, List.drop_nil])
  (refine' head_val ?dw2 ?de2 ?dr2 ?dh2; (case' dw2 => rfl); (case' de2 => (first | exact fun _ _ _ => trivial | (intro t ht w; cases ht; simp [upE]))); (case' dr2 => (intro w' hw' _; go_simp; with_reducible rfl)); (case' dh2 => (try simp only [Act.put, List.setIfInBounds_toArray, List.set_cons_zero, List.set_cons_succ]))); (refine' head_val ?dw3 ?de3 ?dr3 ?dh3; (case' dw3 => rfl); (case' de3 => (first | exact fun _ _ _ => trivial | (intro t ht w; cases ht; simp [upE]))); (case' dr3 => (intro w' hw' _; go_simp; with_reducible rfl)); (case' dh3 => (try simp only [Act.put, List.setIfInBounds_toArray, List.set_cons_zero, List.set_cons_succ]))); (refine' head_val ?dw4 ?de4 ?dr4 ?dh4; (case' dw4 => rfl); (case' de4 => (first | exact fun _ _ _ => trivial | (intro t ht w; cases ht; simp [upE]))); (case' dr4 => (intro w' hw' _; go_simp; with_reducible rfl)); (case' dh4 => (try simp only [Act.put, List.setIfInBounds_toArray, List.set_cons_zero, List.set_cons_succ]))); (refine' head_val ?dw5 ?de5 ?dr5 ?dh5; (case' dw5 => rfl); (case' de5 => (first | exact fun _ _ _ => trivial | (intro t ht w; cases ht; simp [upE]))); (case' dr5 => (intro w' hw' _; go_simp; with_reducible rfl)); (case' dh5 => (try simp only [Act.put, List.setIfInBounds_toArray, List.set_cons_zero, List.set_cons_succ])))
  (refine' head_load1 (i := 0) (v := (.string (bs L))) rfl ?_ rfl rfl HG.out rfl Try.underlying9 rfl ?_; (first | exact fun _ _ _ => trivial | (intro t ht w; cases ht; simp [upE])); try simp only [Act.put, List.setIfInBounds_toArray, List.set_cons_zero, List.set_cons_succ])
  (refine' head_val ?dw6 ?de6 ?dr6 ?dh6; (case' dw6 => rfl); (case' de6 => (first | exact fun _ _ _ => trivial | (intro t ht w; cases ht; simp [upE]))); (case' dr6 => (intro w' hw' _; go_simp; with_reducible rfl)); (case' dh6 => (try simp only [Act.put, List.setIfInBounds_toArray, List.set_cons_zero, List.set_cons_succ]))); (refine' head_val ?dw7 ?de7 ?dr7 ?dh7; (case' dw7 => rfl); (case' de7 => (first | exact fun _ _ _ => trivial | (intro t ht w; cases ht; simp [upE]))); (case' dr7 => (intro w' hw' _; go_simp; with_reducible rfl)); (case' dh7 => (try simp only [Act.put, List.setIfInBounds_toArray, List.set_cons_zero, List.set_cons_succ]))); (refine' head_val ?dw8 ?de8 ?dr8 ?dh8; (case' dw8 => rfl); (case' de8 => (first | exact fun _ _ _ => trivial | (intro t ht w; cases ht; simp [upE]))); (case' dr8 => (intro w' hw' _; go_simp; with_reducible rfl)); (case' dh8 => (try simp only [Act.put, List.setIfInBounds_toArray, List.set_cons_zero, List.set_cons_succ]))); (refine' head_val ?dw9 ?de9 ?dr9 ?dh9; (case' dw9 => rfl); (case' de9 => (first | exact fun _ _ _ => trivial | (intro t ht w; cases ht; simp [upE]))); (case' dr9 => (intro w' hw' _; go_simp; with_reducible rfl)); (case' dh9 => (try simp only [Act.put, List.setIfInBounds_toArray, List.set_cons_zero, List.set_cons_succ])))
  (refine' head_load1 (i := 1) (v := (.int .i64 (p : Int))) rfl ?_ rfl rfl HG.out rfl Try.underlying3 rfl ?_; (first | exact fun _ _ _ => trivial | (intro t ht w; cases ht; simp [upE])); try simp only [Act.put, List.setIfInBounds_toArray, List.set_cons_zero, List.set_cons_succ])
  (refine' head_val ?dw10 ?de10 ?dr10 ?dh10; (case' dw10 => rfl); (case' de10 => (first | exact fun _ _ _ => trivial | (intro t ht w; cases ht; simp [upE]))); (case' dr10 => (intro w' hw' _; go_simp; with_reducible rfl)); (case' dh10 => (try simp only [Act.put, List.setIfInBounds_toArray, List.set_cons_zero, List.set_cons_succ]))); (refine' head_val ?dw11 ?de11 ?dr11 ?dh11; (case' dw11 => rfl); (case' de11 => (first | exact fun _ _ _ => trivial | (intro t ht w; cases ht; simp [upE]))); (case' dr11 => (intro w' hw' _; go_simp; with_reducible rfl)); (case' dh11 => (try simp only [Act.put, List.setIfInBounds_toArray, List.set_cons_zero, List.set_cons_succ])))
  refine head_nil ?_
  intro w1 hb _
  replace HB := hid (Grow.trans HB.out hb)
  replace HG := hid (grow_block HG.out hb)
  clear hb
  refine wpList_nil ?_
  go_wp2_with (first | (refine op_store1 (i := 2) rfl rfl rfl rfl rfl HG.out rfl rfl infoErrno (by simp) ?_) | fail)
  intro w2 hg2 hgr2 _
  have HG2 := hid (show w2.heap[g]? = some (rdOb L p 2) from hg2)
  have HF2 := hid ((fr_grow (D := fun k => k = g) HB.out).trans (fr_grown hgr2 (fun k hk => .inl (by injection hk with hk; exact hk.symm))))
  clear hg2 hgr2
  go_wp2_with fail
  go_ret2
  exact ⟨rfl, HG2.out, HF2.out⟩
theorem rdTake (g : Nat) (L : List UInt8) (p n : Nat) (hp : p ≤ L.length) (hL : L.length ≤ 1000000000) (hn : p + n ≤ L.length) (w : World) (hg : w.heap[g]? = some (rdOb L p 0)) :
    Calls Try.prog 116 #[ptrV g, .int .i64 (n : Int)] w fun r w' => r = .returned (.tuple #[.string (bs ((L.drop p).take n)), .bool true]) ∧ w'.heap[g]? = some (rdOb L (p + n) 0) ∧ Fr (fun k => k = g) w w' := by
  have HG := hid hg
  have hsz := bs_size L
  have hex : (bs L).extract p (p + n) = bs ((L.drop p).take n) := by rw [bs_extract, Nat.add_sub_cancel_left]
  have wsub : IntKind.i64.wrap ((L.length : Int) - (p : Int)) = (L.length : Int) - (p : Int) := IntWalk.i64_in _ (by omega)
  clear hg
  unfold ptrV
  go_enter Try.func116, Try.ntmps116
  have HB := hid (grow_refl w)
  go_wp2_with (first | (refine opG_load1 (i := 0) (v := (.string (bs L))) rfl rfl rfl HG.out rfl Try.underlying9 rfl ?_) | (refine opG_load1 (i := 1) (v := (.int .i64 (p : Int))) rfl rfl rfl HG.out rfl Try.underlying3 rfl ?_) | (refine opG_load1 (i := 2) (v := (.int .i64 0)) rfl rfl rfl HG.out rfl Try.underlying34 rfl ?_) |  fail)
  (refine' wp_region_head 12 0 [_, _, _, _, _, _, _, _, _, _, _, _] rfl (by kernel_rfl) (by kernel_rfl) ?hreg12; case' hreg12 => simp only [List.take_succ_cons, List.take_zero, List.zip_cons_cons, List.zip_nil_right, List.drop_succ_cons, List.drop_zero, List.drop_nil])
  (refine' head_val ?dw13 ?de13 ?dr13 ?dh13; (case' dw13 => rfl); (case' de13 => (first | exact fun _ _ _ => trivial | (intro t ht w; cases ht; simp [upE]))); (case' dr13 => (intro w' hw' _; go_simp; with_reducible rfl)); (case' dh13 => (try simp only [Act.put, List.setIfInBounds_toArray, List.set_cons_zero, List.set_cons_succ]))); (refine' head_val ?dw14 ?de14 ?dr14 ?dh14; (case' dw14 => rfl); (case' de14 => (first | exact fun _ _ _ => trivial | (intro t ht w; cases ht; simp [upE]))); (case' dr14 => (intro w' hw' _; go_simp; with_reducible rfl)); (case' dh14 => (try simp only [Act.put, List.setIfInBounds_toArray, List.set_cons_zero, List.set_cons_succ]))); (refine' head_val ?dw15 ?de15 ?dr15 ?dh15; (case' dw15 => rfl); (case' de15 => (first | exact fun _ _ _ => trivial | (intro t ht w; cases ht; simp [upE]))); (case' dr15 => (intro w' hw' _; go_simp; with_reducible rfl)); (case' dh15 => (try simp only [Act.put, List.setIfInBounds_toArray, List.set_cons_zero, List.set_cons_succ]))); (refine' head_val ?dw16 ?de16 ?dr16 ?dh16; (case' dw16 => rfl); (case' de16 => (first | exact fun _ _ _ => trivial | (intro t ht w; cases ht; simp [upE]))); (case' dr16 => (intro w' hw' _; go_simp; with_reducible rfl)); (case' dh16 => (try simp only [Act.put, List.setIfInBounds_toArray, List.set_cons_zero, List.set_cons_succ])))
  (refine' head_load1 (i := 0) (v := (.string (bs L))) rfl ?_ rfl rfl HG.out rfl Try.underlying9 rfl ?_; (first | exact fun _ _ _ => trivial | (intro t ht w; cases ht; simp [upE])); try simp only [Act.put, List.setIfInBounds_toArray, List.set_cons_zero, List.set_cons_succ])
  (refine' head_val ?dw17 ?de17 ?dr17 ?dh17; (case' dw17 => rfl); (case' de17 => (first | exact fun _ _ _ => trivial | (intro t ht w; cases ht; simp [upE]))); (case' dr17 => (intro w' hw' _; go_simp; with_reducible rfl)); (case' dh17 => (try simp only [Act.put, List.setIfInBounds_toArray, List.set_cons_zero, List.set_cons_succ]))); (refine' head_val ?dw18 ?de18 ?dr18 ?dh18; (case' dw18 => rfl); (case' de18 => (first | exact fun _ _ _ => trivial | (intro t ht w; cases ht; simp [upE]))); (case' dr18 => (intro w' hw' _; go_simp; with_reducible rfl)); (case' dh18 => (try simp only [Act.put, List.setIfInBounds_toArray, List.set_cons_zero, List.set_cons_succ]))); (refine' head_val ?dw19 ?de19 ?dr19 ?dh19; (case' dw19 => rfl); (case' de19 => (first | exact fun _ _ _ => trivial | (intro t ht w; cases ht; simp [upE]))); (case' dr19 => (intro w' hw' _; go_simp; with_reducible rfl)); (case' dh19 => (try simp only [Act.put, List.setIfInBounds_toArray, List.set_cons_zero, List.set_cons_succ]))); (refine' head_val ?dw20 ?de20 ?dr20 ?dh20; (case' dw20 => rfl); (case' de20 => (first | exact fun _ _ _ => trivial | (intro t ht w; cases ht; simp [upE]))); (case' dr20 => (intro w' hw' _; go_simp; with_reducible rfl)); (case' dh20 => (try simp only [Act.put, List.setIfInBounds_toArray, List.set_cons_zero, List.set_cons_succ])))
  (refine' head_load1 (i := 1) (v := (.int .i64 (p : Int))) rfl ?_ rfl rfl HG.out rfl Try.underlying3 rfl ?_; (first | exact fun _ _ _ => trivial | (intro t ht w; cases ht; simp [upE])); try simp only [Act.put, List.setIfInBounds_toArray, List.set_cons_zero, List.set_cons_succ])
  (refine' head_val ?dw21 ?de21 ?dr21 ?dh21; (case' dw21 => rfl); (case' de21 => (first | exact fun _ _ _ => trivial | (intro t ht w; cases ht; simp [upE]))); (case' dr21 => (intro w' hw' _; go_simp; with_reducible rfl)); (case' dh21 => (try simp only [Act.put, List.setIfInBounds_toArray, List.set_cons_zero, List.set_cons_succ]))); (refine' head_val ?dw22 ?de22 ?dr22 ?dh22; (case' dw22 => rfl); (case' de22 => (first | exact fun _ _ _ => trivial | (intro t ht w; cases ht; simp [upE]))); (case' dr22 => (intro w' hw' _; go_simp; with_reducible rfl)); (case' dh22 => (try simp only [Act.put, List.setIfInBounds_toArray, List.set_cons_zero, List.set_cons_succ])))
  refine head_nil ?_
  intro w1 hb _
  replace HB := hid (Grow.trans HB.out hb)
  replace HG := hid (grow_block HG.out hb)
  clear hb
  refine wpList_nil ?_
  go_wp2_with (first | (refine opG_load1 (i := 0) (v := (.string (bs L))) rfl rfl rfl HG.out rfl Try.underlying9 rfl ?_) | (refine opG_load1 (i := 1) (v := (.int .i64 (p : Int))) rfl rfl rfl HG.out rfl Try.underlying3 rfl ?_) | (refine opG_load1 (i := 2) (v := (.int .i64 0)) rfl rfl rfl HG.out rfl Try.underlying34 rfl ?_) | (refine op_store1 (i := 1) rfl rfl rfl rfl rfl HG.out rfl rfl infoInt' (by simp) ?_) |  fail)
  intro w2 hg2 hgr2 _
  have HG2 := hid (show w2.heap[g]? = some (.cells #[.string (bs L), .int .i64 ((p : Int) + (n : Int)), .int .i64 0] 150 (0, 0)) from hg2)
  have HF2 := hid ((fr_grow (D := fun k => k = g) HB.out).trans (fr_grown hgr2 (fun k hk => .inl (by injection hk with hk; exact hk.symm))))
  clear hg2 hgr2 HG HB
  go_wp2_with fail
  have wsub2 : IntKind.i64.wrap ((p : Int) + (n : Int) - (n : Int)) = (p : Int) := by rw [Int.add_sub_cancel]; exact IntWalk.i64_in _ (by omega)
  have wp1 : IntKind.i64.wrap (p : Int) = (p : Int) := IntWalk.i64_in _ (by omega)
  have q0 : (0 : Int) ≤ (p : Int) := by omega
  have q1 : (0 : Int) ≤ (p : Int) + (n : Int) := by omega
  have q2 : (p : Int) + (n : Int) ≤ (L.length : Int) := by omega
  have q3 : (p : Int) ≤ (p : Int) + (n : Int) := by omega
  have q4 : ((p : Int) + (n : Int)).toNat = p + n := by omega
  (refine' wp_region_head 17 0 [_, _, _, _, _, _, _, _, _, _, _, _, _, _, _, _, _] rfl (by kernel_rfl) (by kernel_rfl) ?hreg23; case' hreg23 => simp only [List.take_succ_cons, List.take_zero, List.zip_cons_cons, List.zip_nil_right, List.drop_succ_cons, List.drop_zero, List.drop_nil])
  (refine' head_val ?dw24 ?de24 ?dr24 ?dh24; (case' dw24 => rfl); (case' de24 => (first | exact fun _ _ _ => trivial | (intro t ht w; cases ht; simp [upE]))); (case' dr24 => (intro w' hw' _; go_simp; with_reducible rfl)); (case' dh24 => (try simp only [Act.put, List.setIfInBounds_toArray, List.set_cons_zero, List.set_cons_succ]))); (refine' head_val ?dw25 ?de25 ?dr25 ?dh25; (case' dw25 => rfl); (case' de25 => (first | exact fun _ _ _ => trivial | (intro t ht w; cases ht; simp [upE]))); (case' dr25 => (intro w' hw' _; go_simp; with_reducible rfl)); (case' dh25 => (try simp only [Act.put, List.setIfInBounds_toArray, List.set_cons_zero, List.set_cons_succ]))); (refine' head_val ?dw26 ?de26 ?dr26 ?dh26; (case' dw26 => rfl); (case' de26 => (first | exact fun _ _ _ => trivial | (intro t ht w; cases ht; simp [upE]))); (case' dr26 => (intro w' hw' _; go_simp; with_reducible rfl)); (case' dh26 => (try simp only [Act.put, List.setIfInBounds_toArray, List.set_cons_zero, List.set_cons_succ])))
  (refine' head_load1 (i := 0) (v := (.string (bs L))) rfl ?_ rfl rfl HG2.out rfl Try.underlying9 rfl ?_; (first | exact fun _ _ _ => trivial | (intro t ht w; cases ht; simp [upE])); try simp only [Act.put, List.setIfInBounds_toArray, List.set_cons_zero, List.set_cons_succ])
  (refine' head_val ?dw27 ?de27 ?dr27 ?dh27; (case' dw27 => rfl); (case' de27 => (first | exact fun _ _ _ => trivial | (intro t ht w; cases ht; simp [upE]))); (case' dr27 => (intro w' hw' _; go_simp; with_reducible rfl)); (case' dh27 => (try simp only [Act.put, List.setIfInBounds_toArray, List.set_cons_zero, List.set_cons_succ]))); (refine' head_val ?dw28 ?de28 ?dr28 ?dh28; (case' dw28 => rfl); (case' de28 => (first | exact fun _ _ _ => trivial | (intro t ht w; cases ht; simp [upE]))); (case' dr28 => (intro w' hw' _; go_simp; with_reducible rfl)); (case' dh28 => (try simp only [Act.put, List.setIfInBounds_toArray, List.set_cons_zero, List.set_cons_succ]))); (refine' head_val ?dw29 ?de29 ?dr29 ?dh29; (case' dw29 => rfl); (case' de29 => (first | exact fun _ _ _ => trivial | (intro t ht w; cases ht; simp [upE]))); (case' dr29 => (intro w' hw' _; go_simp; with_reducible rfl)); (case' dh29 => (try simp only [Act.put, List.setIfInBounds_toArray, List.set_cons_zero, List.set_cons_succ])))
  (refine' head_load1 (i := 1) (v := (.int .i64 ((p : Int) + (n : Int)))) rfl ?_ rfl rfl HG2.out rfl Try.underlying3 rfl ?_; (first | exact fun _ _ _ => trivial | (intro t ht w; cases ht; simp [upE])); try simp only [Act.put, List.setIfInBounds_toArray, List.set_cons_zero, List.set_cons_succ])
  (refine' head_val ?dw30 ?de30 ?dr30 ?dh30; (case' dw30 => rfl); (case' de30 => (first | exact fun _ _ _ => trivial | (intro t ht w; cases ht; simp [upE]))); (case' dr30 => (intro w' hw' _; go_simp; with_reducible rfl)); (case' dh30 => (try simp only [Act.put, List.setIfInBounds_toArray, List.set_cons_zero, List.set_cons_succ]))); (refine' head_val ?dw31 ?de31 ?dr31 ?dh31; (case' dw31 => rfl); (case' de31 => (first | exact fun _ _ _ => trivial | (intro t ht w; cases ht; simp [upE]))); (case' dr31 => (intro w' hw' _; go_simp; with_reducible rfl)); (case' dh31 => (try simp only [Act.put, List.setIfInBounds_toArray, List.set_cons_zero, List.set_cons_succ]))); (refine' head_val ?dw32 ?de32 ?dr32 ?dh32; (case' dw32 => rfl); (case' de32 => (first | exact fun _ _ _ => trivial | (intro t ht w; cases ht; simp [upE]))); (case' dr32 => (intro w' hw' _; go_simp; with_reducible rfl)); (case' dh32 => (try simp only [Act.put, List.setIfInBounds_toArray, List.set_cons_zero, List.set_cons_succ]))); (refine' head_val ?dw33 ?de33 ?dr33 ?dh33; (case' dw33 => rfl); (case' de33 => (first | exact fun _ _ _ => trivial | (intro t ht w; cases ht; simp [upE]))); (case' dr33 => (intro w' hw' _; go_simp; with_reducible rfl)); (case' dh33 => (try simp only [Act.put, List.setIfInBounds_toArray, List.set_cons_zero, List.set_cons_succ]))); (refine' head_val ?dw34 ?de34 ?dr34 ?dh34; (case' dw34 => rfl); (case' de34 => (first | exact fun _ _ _ => trivial | (intro t ht w; cases ht; simp [upE]))); (case' dr34 => (intro w' hw' _; go_simp; with_reducible rfl)); (case' dh34 => (try simp only [Act.put, List.setIfInBounds_toArray, List.set_cons_zero, List.set_cons_succ])))
  (refine' head_load1 (i := 1) (v := (.int .i64 ((p : Int) + (n : Int)))) rfl ?_ rfl rfl HG2.out rfl Try.underlying3 rfl ?_; (first | exact fun _ _ _ => trivial | (intro t ht w; cases ht; simp [upE])); try simp only [Act.put, List.setIfInBounds_toArray, List.set_cons_zero, List.set_cons_succ])
  (refine' head_val ?dw35 ?de35 ?dr35 ?dh35; (case' dw35 => rfl); (case' de35 => (first | exact fun _ _ _ => trivial | (intro t ht w; cases ht; simp [upE]))); (case' dr35 => (intro w' hw' _; go_simp; with_reducible rfl)); (case' dh35 => (try simp only [Act.put, List.setIfInBounds_toArray, List.set_cons_zero, List.set_cons_succ]))); (refine' head_val ?dw36 ?de36 ?dr36 ?dh36; (case' dw36 => rfl); (case' de36 => (first | exact fun _ _ _ => trivial | (intro t ht w; cases ht; simp [upE]))); (case' dr36 => (intro w' hw' _; go_simp; with_reducible rfl)); (case' dh36 => (try simp only [Act.put, List.setIfInBounds_toArray, List.set_cons_zero, List.set_cons_succ]))); (refine' head_val ?dw37 ?de37 ?dr37 ?dh37; (case' dw37 => rfl); (case' de37 => (first | exact fun _ _ _ => trivial | (intro t ht w; cases ht; simp [upE]))); (case' dr37 => (intro w' hw' _; go_simp; with_reducible rfl)); (case' dh37 => (try simp only [Act.put, List.setIfInBounds_toArray, List.set_cons_zero, List.set_cons_succ])))
  refine head_nil ?_
  intro w2 hb _
  replace HG2 := hid (grow_block HG2.out hb)
  replace HF2 := hid (Fr.trans HF2.out (fr_grow hb))
  clear hb
  refine wpList_nil ?_
  go_wp2_with fail
  go_ret2
  exact ⟨rfl, HG2.out, HF2.out⟩
theorem rdBack (g : Nat) (L : List UInt8) (p q : Nat) (e e2 : Int) (w : World) (hg : w.heap[g]? = some (rdOb L p e)) :
    Calls Try.prog 118 #[ptrV g, .int .i64 (q : Int), .int .i64 e2] w fun r w' => r = .returned (.tuple #[]) ∧ w'.heap[g]? = some (rdOb L q (backE e e2)) ∧ Fr (fun k => k = g) w w' := by
  have HG := hid hg
  clear hg
  unfold ptrV
  by_cases he : e = 0
  · subst he
    go_enter Try.func118, Try.ntmps118
    have HB := hid (grow_refl w)
    go_wp2_with (first | (refine opG_load1 (i := 0) (v := (.string (bs L))) rfl rfl rfl HG.out rfl Try.underlying9 rfl ?_) | (refine opG_load1 (i := 1) (v := (.int .i64 (p : Int))) rfl rfl rfl HG.out rfl Try.underlying3 rfl ?_) | (refine opG_load1 (i := 2) (v := (.int .i64 0)) rfl rfl rfl HG.out rfl Try.underlying34 rfl ?_) | (refine op_store1 (i := 2) rfl rfl rfl rfl rfl HG.out rfl rfl infoErrno (by simp) ?_) |  fail)
    intro w2 hg2 hgr2 _
    have HG2 := hid (show w2.heap[g]? = some (rdOb L p e2) from hg2)
    have HR2 := hid hgr2
    clear hg2 hgr2
    go_wp2_with (first | (refine op_store1 (i := 1) rfl rfl rfl rfl rfl HG2.out rfl rfl infoInt' (by simp) ?_) | fail)
    intro w3 hg3 hgr3 _
    have HG3 := hid (show w3.heap[g]? = some (rdOb L q e2) from hg3)
    have HF3 := hid (fr_grown (D := fun k => k = g) (grownBy_trans HR2.out hgr3) (fun k hk => .inl (by injection hk with hk; exact hk.symm)))
    clear hg3 hgr3
    go_wp2_with fail
    go_end0
    exact ⟨rfl, HG3.out, HF3.out⟩
  · have t1 : (e == 0) = false := by simp [he]
    have HE := hid he
    clear he
    go_enter Try.func118, Try.ntmps118
    have HB := hid (grow_refl w)
    go_wp2_with (first | (refine opG_load1 (i := 0) (v := (.string (bs L))) rfl rfl rfl HG.out rfl Try.underlying9 rfl ?_) | (refine opG_load1 (i := 1) (v := (.int .i64 (p : Int))) rfl rfl rfl HG.out rfl Try.underlying3 rfl ?_) | (refine opG_load1 (i := 2) (v := (.int .i64 e)) rfl rfl rfl HG.out rfl Try.underlying34 rfl ?_) | (refine op_store1 (i := 1) rfl rfl rfl rfl rfl HG.out rfl rfl infoInt' (by simp) ?_) |  fail)
    intro w3 hg3 hgr3 _
    have HG3 := hid (show w3.heap[g]? = some (rdOb L q e) from hg3)
    have HF3 := hid (fr_grown (D := fun k => k = g) hgr3 (fun k hk => .inl (by injection hk with hk; exact hk.symm)))
    clear hg3 hgr3
    go_wp2_with fail
    go_end0
    exact ⟨rfl, by rw [backE, if_neg HE.out]; exact HG3.out, HF3.out⟩
theorem rdFail (g : Nat) (L : List UInt8) (p : Nat) (e : Int) (w : World) (hg : w.heap[g]? = some (rdOb L p 0)) :
    Calls Try.prog 135 #[ptrV g, .int .i64 e] w fun r w' => r = .returned (.tuple #[]) ∧ w'.heap[g]? = some (rdOb L p e) ∧ Fr (fun k => k = g) w w' := by
  have HG := hid hg
  clear hg
  unfold ptrV
  go_enter Try.func135, Try.ntmps135
  have HB := hid (grow_refl w)
  go_wp2_with (first | (refine opG_load1 (i := 0) (v := (.string (bs L))) rfl rfl rfl HG.out rfl Try.underlying9 rfl ?_) | (refine opG_load1 (i := 1) (v := (.int .i64 (p : Int))) rfl rfl rfl HG.out rfl Try.underlying3 rfl ?_) | (refine opG_load1 (i := 2) (v := (.int .i64 0)) rfl rfl rfl HG.out rfl Try.underlying34 rfl ?_) | (refine op_store1 (i := 2) rfl rfl rfl rfl rfl HG.out rfl rfl infoErrno (by simp) ?_) |  fail)
  intro w2 hg2 hgr2 _
  have HG2 := hid (show w2.heap[g]? = some (rdOb L p e) from hg2)
  have HF2 := hid (fr_grown (D := fun k => k = g) hgr2 (fun k hk => .inl (by injection hk with hk; exact hk.symm)))
  clear hg2 hgr2
  go_wp2_with fail
  go_end0
  exact ⟨rfl, HG2.out, HF2.out⟩
def numR (L : List UInt8) (p : Nat) : NumR := rdN 0 0 (L.drop p)
def valR : NumR → Int | .ok v _ => (v : Int) | _ => 0
def posR (p : Nat) : NumR → Nat | .ok _ k => p + k | _ => p
def errR : NumR → Int | .ok _ _ => 0 | .short => 2 | .form => 3
theorem andF127 : ∀ x : Fin 256, bits .and .u8 ((x.val : Nat) : Int) 127 = ((x.val % 128 : Nat) : Int) := by decide +kernel
theorem and_127 (c : Nat) (h : c ≤ 255) : bits .and .u8 (c : Int) 127 = ((c % 128 : Nat) : Int) := andF127 ⟨c, by omega⟩
theorem pow_7 (n : Nat) (h : n ≤ 8) : 2 ^ (7 * n) ≤ 72057594037927936 := Nat.le_trans (Nat.pow_le_pow_right (by decide) (by omega : 7 * n ≤ 56)) (by decide)
theorem wraps_i64' (n : Int) (h₀ : 0 ≤ n) (h₁ : n < 2 ^ 63) : IntKind.i64.wrap n = n := IntWalk.i64_in _ (by
  have e : (2 : Int) ^ 63 = 9223372036854775808 := by decide
  omega)
theorem or_join (v x n : Nat) (hv : v < 2 ^ (7 * n)) (hn : n ≤ 8) (hx : x % 2 ^ (7 * n) = 0) (hb : x ≤ 9223372036854775807) : bits .or .i64 (v : Int) (x : Int) = ((v + x : Nat) : Int) := by
  have hc : bits .or .i64 (v : Int) (x : Int) = bits .or .i64 (x : Int) (v : Int) := by simp only [bits, BitVec.or_comm]
  have e : (2 : Int) ^ 63 = 9223372036854775808 := by decide
  have hp := pow_7 n hn
  rw [hc, bits_join .i64 63 (by decide) wraps_i64' (7 * n) (x : Int) (v : Int) (by omega) (by exact_mod_cast hx) (by omega) (by omega) (by exact_mod_cast hv) (by omega)]
  omega
theorem rdNum_err (g : Nat) (L : List UInt8) (p : Nat) (e : Int) (he : e ≠ 0) (w : World) (hg : w.heap[g]? = some (rdOb L p e)) :
    Calls Try.prog 76 #[ptrV g] w fun r w' => r = .returned (.int .i64 0) ∧ w'.heap[g]? = some (rdOb L p e) ∧ Fr (fun k => k = g) w w' := by
  have HG := hid hg
  have HE := hid he
  have HTK := hid (fun w hg => rdTake_err g L p e 1 he w hg)
  have HBK := hid (fun w hg => rdBack g L p p e e w hg)
  clear hg he
  unfold ptrV at *
  go_enter Try.func76, Try.ntmps76
  have HB := hid (grow_refl w)
  go_wp2_with fail
  refine wp_scope_back 1 (fun _ _ => False) (fun _ _ => 0) rfl (fun _ _ h => h.elim) fun _ => ?_
  go_wp2_with (first | (refine opG_load1 (i := 0) (v := (.string (bs L))) rfl rfl rfl HG.out rfl Try.underlying9 rfl ?_) | (refine opG_load1 (i := 1) (v := (.int .i64 (p : Int))) rfl rfl rfl HG.out rfl Try.underlying3 rfl ?_) | (refine opG_load1 (i := 2) (v := (.int .i64 e)) rfl rfl rfl HG.out rfl Try.underlying34 rfl ?_) |  fail)
  apply wp_label
  simp only [Exit.then]
  go_wp2_with fail
  refine (HTK.out _ HG.out).mono ?_
  rintro _ w1 ⟨rfl, rfl⟩
  go_wp2_with fail
  apply wp_goto
  simp only [Exit.then, Exit.inBlock, Exit.back]
  refine .inr ⟨_, rfl, ?_⟩
  go_wp2_with (first | (refine opG_load1 (i := 0) (v := (.string (bs L))) rfl rfl rfl HG.out rfl Try.underlying9 rfl ?_) | (refine opG_load1 (i := 1) (v := (.int .i64 (p : Int))) rfl rfl rfl HG.out rfl Try.underlying3 rfl ?_) | (refine opG_load1 (i := 2) (v := (.int .i64 e)) rfl rfl rfl HG.out rfl Try.underlying34 rfl ?_) |  fail)
  refine (HBK.out _ HG.out).mono ?_
  rintro _ w1 ⟨rfl, hg, hf⟩
  have HG1 := hid (show w1.heap[g]? = some (rdOb L p e) by rw [show backE e e = e from by unfold backE; split <;> rfl] at hg; exact hg)
  have HF1 := hid hf
  clear hg hf
  go_wp2_with fail
  rw [Exit.noGoto_ret]
  go_ret
  exact ⟨rfl, HG1.out, HF1.out⟩
end Go.Proofs.Ytabkaflccaklhaa
