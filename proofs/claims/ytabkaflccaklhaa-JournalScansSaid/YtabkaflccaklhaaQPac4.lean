/- pack.Reader: New, Err, Place, End, count, Text; the chapter's example: contracts. -/
import Derived.Test.YtabkaflccaklhaaQPac3
set_option linter.unusedSimpArgs false
set_option linter.unusedVariables false
namespace Go.Proofs.Ytabkaflccaklhaa
open Go.RowKit
open Go.Qk hiding rotr b4
open Pac
set_option maxHeartbeats 1000000
set_option maxRecDepth 100000
theorem rdNew (L : List UInt8) (w : World) : Calls Try.prog 25 #[.string (bs L)] w fun r w' => ∃ g, r = .returned (.pointer (some ⟨g, 0, none⟩)) ∧ w.heap.size ≤ g ∧ w'.heap[g]? = some (rdOb L 0 0) ∧ Grow w w' := by
  go_enter Try.func25, Try.ntmps25
  have HB := hid (grow_refl w)
  go_wp2_with fail
  go_ret
  exact ⟨_, rfl, Nat.le_refl _, heap_alloc_new _ _, grow_alloc _ _⟩
theorem rdErr (g : Nat) (L : List UInt8) (p : Nat) (e : Int) (w : World) (hg : w.heap[g]? = some (rdOb L p e)) :
    Calls Try.prog 32 #[ptrV g] w fun r w' => r = .returned (.int .i64 e) ∧ w = w' := by
  have HG := hid hg
  clear hg
  unfold ptrV
  go_enter Try.func32, Try.ntmps32
  have HB := hid (grow_refl w)
  go_wp2_with (first | (refine opG_load1 (i := 0) (v := (.string (bs L))) rfl rfl rfl HG.out rfl Try.underlying9 rfl ?_) | (refine opG_load1 (i := 1) (v := (.int .i64 (p : Int))) rfl rfl rfl HG.out rfl Try.underlying3 rfl ?_) | (refine opG_load1 (i := 2) (v := (.int .i64 e)) rfl rfl rfl HG.out rfl Try.underlying34 rfl ?_) |  fail)
  go_ret
  exact ⟨rfl, rfl⟩
theorem rdPlace (g : Nat) (L : List UInt8) (p : Nat) (e : Int) (w : World) (hg : w.heap[g]? = some (rdOb L p e)) :
    Calls Try.prog 57 #[ptrV g] w fun r w' => r = .returned (.int .i64 (p : Int)) ∧ w = w' := by
  have HG := hid hg
  clear hg
  unfold ptrV
  go_enter Try.func57, Try.ntmps57
  have HB := hid (grow_refl w)
  go_wp2_with (first | (refine opG_load1 (i := 0) (v := (.string (bs L))) rfl rfl rfl HG.out rfl Try.underlying9 rfl ?_) | (refine opG_load1 (i := 1) (v := (.int .i64 (p : Int))) rfl rfl rfl HG.out rfl Try.underlying3 rfl ?_) | (refine opG_load1 (i := 2) (v := (.int .i64 e)) rfl rfl rfl HG.out rfl Try.underlying34 rfl ?_) |  fail)
  go_ret
  exact ⟨rfl, rfl⟩
def endE (L : List UInt8) (p : Nat) (e : Int) : Int := if e = 0 ∧ p < L.length then 3 else e
theorem rdEnd (g : Nat) (L : List UInt8) (p : Nat) (e : Int) (w : World) (hg : w.heap[g]? = some (rdOb L p e)) :
    Calls Try.prog 29 #[ptrV g] w fun r w' => r = .returned (.int .i64 (endE L p e)) ∧ Grow w w' := by
  have HG := hid hg
  have hsz := bs_size L
  clear hg
  unfold ptrV
  by_cases he : e = 0
  · subst he
    have HE : Hid (endE L p 0 = if p < L.length then 3 else 0) := hid (by unfold endE; simp)
    go_enter Try.func29, Try.ntmps29
    have HB := hid (grow_refl w)
    go_wp2_with fail
    (refine' wp_region_head 17 0 [_, _, _, _, _, _, _, _, _, _, _, _, _, _, _, _, _] rfl (by kernel_rfl) (by kernel_rfl) ?hreg1; case' hreg1 => simp only [List.take_succ_cons, List.take_zero, List.zip_cons_cons, List.zip_nil_right, List.drop_succ_cons, List.drop_zero, List.drop_nil])
    (refine' head_val ?dw2 ?de2 ?dr2 ?dh2; (case' dw2 => rfl); (case' de2 => (first | exact fun _ _ _ => trivial | (intro t ht w; cases ht; simp [upE]))); (case' dr2 => (intro w' hw' _; go_simp; with_reducible rfl)); (case' dh2 => (try simp only [Act.put, List.setIfInBounds_toArray, List.set_cons_zero, List.set_cons_succ]))); (refine' head_val ?dw3 ?de3 ?dr3 ?dh3; (case' dw3 => rfl); (case' de3 => (first | exact fun _ _ _ => trivial | (intro t ht w; cases ht; simp [upE]))); (case' dr3 => (intro w' hw' _; go_simp; with_reducible rfl)); (case' dh3 => (try simp only [Act.put, List.setIfInBounds_toArray, List.set_cons_zero, List.set_cons_succ]))); (refine' head_val ?dw4 ?de4 ?dr4 ?dh4; (case' dw4 => rfl); (case' de4 => (first | exact fun _ _ _ => trivial | (intro t ht w; cases ht; simp [upE]))); (case' dr4 => (intro w' hw' _; go_simp; with_reducible rfl)); (case' dh4 => (try simp only [Act.put, List.setIfInBounds_toArray, List.set_cons_zero, List.set_cons_succ])))
    (refine' head_load1 (i := 2) (v := (.int .i64 0)) rfl ?_ rfl rfl HG.out rfl Try.underlying34 rfl ?_; (first | exact fun _ _ _ => trivial | (intro t ht w; cases ht; simp [upE])); try simp only [Act.put, List.setIfInBounds_toArray, List.set_cons_zero, List.set_cons_succ])
    (refine' head_val ?dw5 ?de5 ?dr5 ?dh5; (case' dw5 => rfl); (case' de5 => (first | exact fun _ _ _ => trivial | (intro t ht w; cases ht; simp [upE]))); (case' dr5 => (intro w' hw' _; go_simp; with_reducible rfl)); (case' dh5 => (try simp only [Act.put, List.setIfInBounds_toArray, List.set_cons_zero, List.set_cons_succ]))); (refine' head_val ?dw6 ?de6 ?dr6 ?dh6; (case' dw6 => rfl); (case' de6 => (first | exact fun _ _ _ => trivial | (intro t ht w; cases ht; simp [upE]))); (case' dr6 => (intro w' hw' _; go_simp; with_reducible rfl)); (case' dh6 => (try simp only [Act.put, List.setIfInBounds_toArray, List.set_cons_zero, List.set_cons_succ]))); (refine' head_val ?dw7 ?de7 ?dr7 ?dh7; (case' dw7 => rfl); (case' de7 => (first | exact fun _ _ _ => trivial | (intro t ht w; cases ht; simp [upE]))); (case' dr7 => (intro w' hw' _; go_simp; with_reducible rfl)); (case' dh7 => (try simp only [Act.put, List.setIfInBounds_toArray, List.set_cons_zero, List.set_cons_succ]))); (refine' head_val ?dw8 ?de8 ?dr8 ?dh8; (case' dw8 => rfl); (case' de8 => (first | exact fun _ _ _ => trivial | (intro t ht w; cases ht; simp [upE]))); (case' dr8 => (intro w' hw' _; go_simp; with_reducible rfl)); (case' dh8 => (try simp only [Act.put, List.setIfInBounds_toArray, List.set_cons_zero, List.set_cons_succ]))); (refine' head_val ?dw9 ?de9 ?dr9 ?dh9; (case' dw9 => rfl); (case' de9 => (first | exact fun _ _ _ => trivial | (intro t ht w; cases ht; simp [upE]))); (case' dr9 => (intro w' hw' _; go_simp; with_reducible rfl)); (case' dh9 => (try simp only [Act.put, List.setIfInBounds_toArray, List.set_cons_zero, List.set_cons_succ])))
    (refine' head_load1 (i := 1) (v := (.int .i64 (p : Int))) rfl ?_ rfl rfl HG.out rfl Try.underlying3 rfl ?_; (first | exact fun _ _ _ => trivial | (intro t ht w; cases ht; simp [upE])); try simp only [Act.put, List.setIfInBounds_toArray, List.set_cons_zero, List.set_cons_succ])
    (refine' head_val ?dw10 ?de10 ?dr10 ?dh10; (case' dw10 => rfl); (case' de10 => (first | exact fun _ _ _ => trivial | (intro t ht w; cases ht; simp [upE]))); (case' dr10 => (intro w' hw' _; go_simp; with_reducible rfl)); (case' dh10 => (try simp only [Act.put, List.setIfInBounds_toArray, List.set_cons_zero, List.set_cons_succ]))); (refine' head_val ?dw11 ?de11 ?dr11 ?dh11; (case' dw11 => rfl); (case' de11 => (first | exact fun _ _ _ => trivial | (intro t ht w; cases ht; simp [upE]))); (case' dr11 => (intro w' hw' _; go_simp; with_reducible rfl)); (case' dh11 => (try simp only [Act.put, List.setIfInBounds_toArray, List.set_cons_zero, List.set_cons_succ]))); (refine' head_val ?dw12 ?de12 ?dr12 ?dh12; (case' dw12 => rfl); (case' de12 => (first | exact fun _ _ _ => trivial | (intro t ht w; cases ht; simp [upE]))); (case' dr12 => (intro w' hw' _; go_simp; with_reducible rfl)); (case' dh12 => (try simp only [Act.put, List.setIfInBounds_toArray, List.set_cons_zero, List.set_cons_succ])))
    (refine' head_load1 (i := 0) (v := (.string (bs L))) rfl ?_ rfl rfl HG.out rfl Try.underlying9 rfl ?_; (first | exact fun _ _ _ => trivial | (intro t ht w; cases ht; simp [upE])); try simp only [Act.put, List.setIfInBounds_toArray, List.set_cons_zero, List.set_cons_succ])
    (refine' head_val ?dw13 ?de13 ?dr13 ?dh13; (case' dw13 => rfl); (case' de13 => (first | exact fun _ _ _ => trivial | (intro t ht w; cases ht; simp [upE]))); (case' dr13 => (intro w' hw' _; go_simp; with_reducible rfl)); (case' dh13 => (try simp only [Act.put, List.setIfInBounds_toArray, List.set_cons_zero, List.set_cons_succ]))); (refine' head_val ?dw14 ?de14 ?dr14 ?dh14; (case' dw14 => rfl); (case' de14 => (first | exact fun _ _ _ => trivial | (intro t ht w; cases ht; simp [upE]))); (case' dr14 => (intro w' hw' _; go_simp; with_reducible rfl)); (case' dh14 => (try simp only [Act.put, List.setIfInBounds_toArray, List.set_cons_zero, List.set_cons_succ]))); (refine' head_val ?dw15 ?de15 ?dr15 ?dh15; (case' dw15 => rfl); (case' de15 => (first | exact fun _ _ _ => trivial | (intro t ht w; cases ht; simp [upE]))); (case' dr15 => (intro w' hw' _; go_simp; with_reducible rfl)); (case' dh15 => (try simp only [Act.put, List.setIfInBounds_toArray, List.set_cons_zero, List.set_cons_succ])))
    refine head_nil ?_
    intro w1 hb _
    replace HB := hid (Grow.trans HB.out hb)
    replace HG := hid (grow_block HG.out hb)
    clear hb
    refine wpList_nil ?_
    by_cases hp : p < L.length
    · have HP := hid hp
      go_wp2_with fail
      go_ret
      exact ⟨by rw [HE.out, if_pos HP.out]; rfl, HB.out⟩
    · have HP := hid hp
      go_wp2_with (first | (refine opG_load1 (i := 0) (v := (.string (bs L))) rfl rfl rfl HG.out rfl Try.underlying9 rfl ?_) | (refine opG_load1 (i := 1) (v := (.int .i64 (p : Int))) rfl rfl rfl HG.out rfl Try.underlying3 rfl ?_) | (refine opG_load1 (i := 2) (v := (.int .i64 0)) rfl rfl rfl HG.out rfl Try.underlying34 rfl ?_) |  fail)
      go_ret
      exact ⟨by rw [HE.out, if_neg HP.out]; rfl, HB.out⟩
  · have t1 : (e == 0) = false := by simp [he]
    have HE : Hid (endE L p e = e) := hid (by unfold endE; rw [if_neg (fun h => he h.1)])
    clear he
    go_enter Try.func29, Try.ntmps29
    have HB := hid (grow_refl w)
    go_wp2_with fail
    (refine' wp_region_head 17 0 [_, _, _, _, _, _, _, _, _, _, _, _, _, _, _, _, _] rfl (by kernel_rfl) (by kernel_rfl) ?hreg16; case' hreg16 => simp only [List.take_succ_cons, List.take_zero, List.zip_cons_cons, List.zip_nil_right, List.drop_succ_cons, List.drop_zero, List.drop_nil])
    (refine' head_val ?dw17 ?de17 ?dr17 ?dh17; (case' dw17 => rfl); (case' de17 => (first | exact fun _ _ _ => trivial | (intro t ht w; cases ht; simp [upE]))); (case' dr17 => (intro w' hw' _; go_simp; with_reducible rfl)); (case' dh17 => (try simp only [Act.put, List.setIfInBounds_toArray, List.set_cons_zero, List.set_cons_succ]))); (refine' head_val ?dw18 ?de18 ?dr18 ?dh18; (case' dw18 => rfl); (case' de18 => (first | exact fun _ _ _ => trivial | (intro t ht w; cases ht; simp [upE]))); (case' dr18 => (intro w' hw' _; go_simp; with_reducible rfl)); (case' dh18 => (try simp only [Act.put, List.setIfInBounds_toArray, List.set_cons_zero, List.set_cons_succ]))); (refine' head_val ?dw19 ?de19 ?dr19 ?dh19; (case' dw19 => rfl); (case' de19 => (first | exact fun _ _ _ => trivial | (intro t ht w; cases ht; simp [upE]))); (case' dr19 => (intro w' hw' _; go_simp; with_reducible rfl)); (case' dh19 => (try simp only [Act.put, List.setIfInBounds_toArray, List.set_cons_zero, List.set_cons_succ])))
    (refine' head_load1 (i := 2) (v := (.int .i64 e)) rfl ?_ rfl rfl HG.out rfl Try.underlying34 rfl ?_; (first | exact fun _ _ _ => trivial | (intro t ht w; cases ht; simp [upE])); try simp only [Act.put, List.setIfInBounds_toArray, List.set_cons_zero, List.set_cons_succ])
    (refine' head_val ?dw20 ?de20 ?dr20 ?dh20; (case' dw20 => rfl); (case' de20 => (first | exact fun _ _ _ => trivial | (intro t ht w; cases ht; simp [upE]))); (case' dr20 => (intro w' hw' _; go_simp; with_reducible rfl)); (case' dh20 => (try simp only [Act.put, List.setIfInBounds_toArray, List.set_cons_zero, List.set_cons_succ]))); (refine' head_val ?dw21 ?de21 ?dr21 ?dh21; (case' dw21 => rfl); (case' de21 => (first | exact fun _ _ _ => trivial | (intro t ht w; cases ht; simp [upE]))); (case' dr21 => (intro w' hw' _; go_simp; with_reducible rfl)); (case' dh21 => (try simp only [Act.put, List.setIfInBounds_toArray, List.set_cons_zero, List.set_cons_succ])))
    (refine' head_skip (V := fun _ _ => True) ?sw22 ?se22 ?sh22; (case' sw22 => rfl); (case' se22 => (first | exact fun _ _ _ => trivial | (intro t ht w; cases ht; simp [upE]))); (case' sh22 => (try simp only [Act.put, List.setIfInBounds_toArray, List.set_cons_zero, List.set_cons_succ]))); (refine' head_skip (V := fun _ _ => True) ?sw23 ?se23 ?sh23; (case' sw23 => rfl); (case' se23 => (first | exact fun _ _ _ => trivial | (intro t ht w; cases ht; simp [upE]))); (case' sh23 => (try simp only [Act.put, List.setIfInBounds_toArray, List.set_cons_zero, List.set_cons_succ]))); (refine' head_skip (V := fun _ _ => True) ?sw24 ?se24 ?sh24; (case' sw24 => rfl); (case' se24 => (first | exact fun _ _ _ => trivial | (intro t ht w; cases ht; simp [upE]))); (case' sh24 => (try simp only [Act.put, List.setIfInBounds_toArray, List.set_cons_zero, List.set_cons_succ]))); (refine' head_skip (V := fun _ _ => True) ?sw25 ?se25 ?sh25; (case' sw25 => rfl); (case' se25 => (first | exact fun _ _ _ => trivial | (intro t ht w; cases ht; simp [upE]))); (case' sh25 => (try simp only [Act.put, List.setIfInBounds_toArray, List.set_cons_zero, List.set_cons_succ]))); (refine' head_skip (V := fun _ _ => True) ?sw26 ?se26 ?sh26; (case' sw26 => rfl); (case' se26 => (first | exact fun _ _ _ => trivial | (intro t ht w; cases ht; simp [upE]))); (case' sh26 => (try simp only [Act.put, List.setIfInBounds_toArray, List.set_cons_zero, List.set_cons_succ]))); (refine' head_skip (V := fun _ _ => True) ?sw27 ?se27 ?sh27; (case' sw27 => rfl); (case' se27 => (first | exact fun _ _ _ => trivial | (intro t ht w; cases ht; simp [upE]))); (case' sh27 => (try simp only [Act.put, List.setIfInBounds_toArray, List.set_cons_zero, List.set_cons_succ]))); (refine' head_skip (V := fun _ _ => True) ?sw28 ?se28 ?sh28; (case' sw28 => rfl); (case' se28 => (first | exact fun _ _ _ => trivial | (intro t ht w; cases ht; simp [upE]))); (case' sh28 => (try simp only [Act.put, List.setIfInBounds_toArray, List.set_cons_zero, List.set_cons_succ]))); (refine' head_skip (V := fun _ _ => True) ?sw29 ?se29 ?sh29; (case' sw29 => rfl); (case' se29 => (first | exact fun _ _ _ => trivial | (intro t ht w; cases ht; simp [upE]))); (case' sh29 => (try simp only [Act.put, List.setIfInBounds_toArray, List.set_cons_zero, List.set_cons_succ]))); (refine' head_skip (V := fun _ _ => True) ?sw30 ?se30 ?sh30; (case' sw30 => rfl); (case' se30 => (first | exact fun _ _ _ => trivial | (intro t ht w; cases ht; simp [upE]))); (case' sh30 => (try simp only [Act.put, List.setIfInBounds_toArray, List.set_cons_zero, List.set_cons_succ]))); (refine' head_skip (V := fun _ _ => True) ?sw31 ?se31 ?sh31; (case' sw31 => rfl); (case' se31 => (first | exact fun _ _ _ => trivial | (intro t ht w; cases ht; simp [upE]))); (case' sh31 => (try simp only [Act.put, List.setIfInBounds_toArray, List.set_cons_zero, List.set_cons_succ])))
    (refine' head_val ?dw32 ?de32 ?dr32 ?dh32; (case' dw32 => rfl); (case' de32 => (first | exact fun _ _ _ => trivial | (intro t ht w; cases ht; simp [upE]))); (case' dr32 => (intro w' hw' _; go_simp; with_reducible rfl)); (case' dh32 => (try simp only [Act.put, List.setIfInBounds_toArray, List.set_cons_zero, List.set_cons_succ])))
    refine head_nil ?_
    intro w2 hb _
    replace HB := hid (Grow.trans HB.out hb)
    replace HG := hid (grow_block HG.out hb)
    clear hb
    refine wpList_nil ?_
    go_wp2_with (first | (refine opG_load1 (i := 0) (v := (.string (bs L))) rfl rfl rfl HG.out rfl Try.underlying9 rfl ?_) | (refine opG_load1 (i := 1) (v := (.int .i64 (p : Int))) rfl rfl rfl HG.out rfl Try.underlying3 rfl ?_) | (refine opG_load1 (i := 2) (v := (.int .i64 e)) rfl rfl rfl HG.out rfl Try.underlying34 rfl ?_) |  fail)
    go_ret
    exact ⟨by rw [HE.out]; rfl, HB.out⟩
/-- Where the number is there, and isn't too great. -/
theorem rdCount_ok (g : Nat) (L : List UInt8) (p most v k : Nat) (hp : p ≤ L.length) (hL : L.length ≤ 1000000000) (hR : numR L p = .ok v k) (hv : v ≤ 4611686018427387904) (hm : v ≤ most) (w : World) (hg : w.heap[g]? = some (rdOb L p 0)) :
    Calls Try.prog 117 #[ptrV g, .int .i64 (most : Int)] w fun r w' => r = .returned (.tuple #[.int .i64 (v : Int), .bool true]) ∧ w'.heap[g]? = some (rdOb L (p + k) 0) ∧ Fr (fun k => k = g) w w' := by
  have HG := hid hg
  have hN := rdNum g L p hp hL w hg
  rw [hR] at hN
  have HN := hid hN
  clear hg hN hR
  unfold ptrV at *
  go_enter Try.func117, Try.ntmps117
  have HB := hid (grow_refl w)
  clear HB
  go_wp2_with (first | (refine opG_load1 (i := 0) (v := (.string (bs L))) rfl rfl rfl HG.out rfl Try.underlying9 rfl ?_) | (refine opG_load1 (i := 1) (v := (.int .i64 (p : Int))) rfl rfl rfl HG.out rfl Try.underlying3 rfl ?_) | (refine opG_load1 (i := 2) (v := (.int .i64 0)) rfl rfl rfl HG.out rfl Try.underlying34 rfl ?_) |  fail)
  refine HN.out.mono ?_
  rintro _ w1 ⟨rfl, hg, hf⟩
  have HG1 := hid (show w1.heap[g]? = some (rdOb L (p + k) 0) from hg)
  have HF1 := hid hf
  clear hg hf HG HN
  have e1 : valR (.ok v k) = (v : Int) := rfl
  rw [e1]
  clear e1
  go_wp2_with (first | (refine opG_load1 (i := 0) (v := (.string (bs L))) rfl rfl rfl HG1.out rfl Try.underlying9 rfl ?_) | (refine opG_load1 (i := 1) (v := (.int .i64 ((p + k : Nat) : Int))) rfl rfl rfl HG1.out rfl Try.underlying3 rfl ?_) | (refine opG_load1 (i := 2) (v := (.int .i64 0)) rfl rfl rfl HG1.out rfl Try.underlying34 rfl ?_) |  fail)
  (refine' wp_region_head 8 0 [_, _, _, _, _, _, _, _] rfl (by kernel_rfl) (by kernel_rfl) ?hreg33; case' hreg33 => simp only [List.take_succ_cons, List.take_zero, List.zip_cons_cons, List.zip_nil_right, List.drop_succ_cons, List.drop_zero, List.drop_nil])
  (refine' head_val ?dw34 ?de34 ?dr34 ?dh34; (case' dw34 => rfl); (case' de34 => (first | exact fun _ _ _ => trivial | (intro t ht w; cases ht; simp [upE]))); (case' dr34 => (intro w' hw' _; go_simp; with_reducible rfl)); (case' dh34 => (try simp only [Act.put, List.setIfInBounds_toArray, List.set_cons_zero, List.set_cons_succ]))); (refine' head_val ?dw35 ?de35 ?dr35 ?dh35; (case' dw35 => rfl); (case' de35 => (first | exact fun _ _ _ => trivial | (intro t ht w; cases ht; simp [upE]))); (case' dr35 => (intro w' hw' _; go_simp; with_reducible rfl)); (case' dh35 => (try simp only [Act.put, List.setIfInBounds_toArray, List.set_cons_zero, List.set_cons_succ]))); (refine' head_val ?dw36 ?de36 ?dr36 ?dh36; (case' dw36 => rfl); (case' de36 => (first | exact fun _ _ _ => trivial | (intro t ht w; cases ht; simp [upE]))); (case' dr36 => (intro w' hw' _; go_simp; with_reducible rfl)); (case' dh36 => (try simp only [Act.put, List.setIfInBounds_toArray, List.set_cons_zero, List.set_cons_succ]))); (refine' head_val ?dw37 ?de37 ?dr37 ?dh37; (case' dw37 => rfl); (case' de37 => (first | exact fun _ _ _ => trivial | (intro t ht w; cases ht; simp [upE]))); (case' dr37 => (intro w' hw' _; go_simp; with_reducible rfl)); (case' dh37 => (try simp only [Act.put, List.setIfInBounds_toArray, List.set_cons_zero, List.set_cons_succ])))
  (refine' head_load1 (i := 2) (v := (.int .i64 0)) rfl ?_ rfl rfl HG1.out rfl Try.underlying34 rfl ?_; (first | exact fun _ _ _ => trivial | (intro t ht w; cases ht; simp [upE])); try simp only [Act.put, List.setIfInBounds_toArray, List.set_cons_zero, List.set_cons_succ])
  (refine' head_val ?dw38 ?de38 ?dr38 ?dh38; (case' dw38 => rfl); (case' de38 => (first | exact fun _ _ _ => trivial | (intro t ht w; cases ht; simp [upE]))); (case' dr38 => (intro w' hw' _; go_simp; with_reducible rfl)); (case' dh38 => (try simp only [Act.put, List.setIfInBounds_toArray, List.set_cons_zero, List.set_cons_succ]))); (refine' head_val ?dw39 ?de39 ?dr39 ?dh39; (case' dw39 => rfl); (case' de39 => (first | exact fun _ _ _ => trivial | (intro t ht w; cases ht; simp [upE]))); (case' dr39 => (intro w' hw' _; go_simp; with_reducible rfl)); (case' dh39 => (try simp only [Act.put, List.setIfInBounds_toArray, List.set_cons_zero, List.set_cons_succ]))); (refine' head_val ?dw40 ?de40 ?dr40 ?dh40; (case' dw40 => rfl); (case' de40 => (first | exact fun _ _ _ => trivial | (intro t ht w; cases ht; simp [upE]))); (case' dr40 => (intro w' hw' _; go_simp; with_reducible rfl)); (case' dh40 => (try simp only [Act.put, List.setIfInBounds_toArray, List.set_cons_zero, List.set_cons_succ])))
  refine head_nil ?_
  intro w2 hb _
  replace HG1 := hid (grow_block HG1.out hb)
  replace HF1 := hid (Fr.trans HF1.out (fr_grow hb))
  clear hb
  refine wpList_nil ?_
  go_wp2_with fail
  go_ret2
  exact ⟨rfl, HG1.out, HF1.out⟩
/-- Where it is too great. -/
theorem rdCount_long (g : Nat) (L : List UInt8) (p most v k : Nat) (hp : p ≤ L.length) (hL : L.length ≤ 1000000000) (hR : numR L p = .ok v k) (hv : v ≤ 4611686018427387904) (hm : most < v) (w : World) (hg : w.heap[g]? = some (rdOb L p 0)) :
    Calls Try.prog 117 #[ptrV g, .int .i64 (most : Int)] w fun r w' => r = .returned (.tuple #[.int .i64 (v : Int), .bool false]) ∧ w'.heap[g]? = some (rdOb L p 4) ∧ Fr (fun k => k = g) w w' := by
  have HG := hid hg
  have hN := rdNum g L p hp hL w hg
  rw [hR] at hN
  have HN := hid hN
  clear hg hN hR
  unfold ptrV at *
  go_enter Try.func117, Try.ntmps117
  have HB := hid (grow_refl w)
  clear HB
  go_wp2_with (first | (refine opG_load1 (i := 0) (v := (.string (bs L))) rfl rfl rfl HG.out rfl Try.underlying9 rfl ?_) | (refine opG_load1 (i := 1) (v := (.int .i64 (p : Int))) rfl rfl rfl HG.out rfl Try.underlying3 rfl ?_) | (refine opG_load1 (i := 2) (v := (.int .i64 0)) rfl rfl rfl HG.out rfl Try.underlying34 rfl ?_) |  fail)
  refine HN.out.mono ?_
  rintro _ w1 ⟨rfl, hg, hf⟩
  have HG1 := hid (show w1.heap[g]? = some (rdOb L (p + k) 0) from hg)
  have HF1 := hid hf
  have HBK := hid (rdBack g L (p + k) p 0 4 w1 hg)
  clear hg hf HG HN
  have e1 : valR (.ok v k) = (v : Int) := rfl
  rw [e1]
  clear e1
  unfold ptrV at *
  go_wp2_with (first | (refine opG_load1 (i := 0) (v := (.string (bs L))) rfl rfl rfl HG1.out rfl Try.underlying9 rfl ?_) | (refine opG_load1 (i := 1) (v := (.int .i64 ((p + k : Nat) : Int))) rfl rfl rfl HG1.out rfl Try.underlying3 rfl ?_) | (refine opG_load1 (i := 2) (v := (.int .i64 0)) rfl rfl rfl HG1.out rfl Try.underlying34 rfl ?_) |  fail)
  refine HBK.out.mono ?_
  rintro _ w2 ⟨rfl, hg, hf⟩
  have HG2 := hid (show w2.heap[g]? = some (rdOb L p 4) from hg)
  have HF2 := hid (HF1.out.trans hf)
  clear hg hf HG1 HF1 HBK
  go_wp2_with fail
  (refine' wp_region_head 8 0 [_, _, _, _, _, _, _, _] rfl (by kernel_rfl) (by kernel_rfl) ?hreg41; case' hreg41 => simp only [List.take_succ_cons, List.take_zero, List.zip_cons_cons, List.zip_nil_right, List.drop_succ_cons, List.drop_zero, List.drop_nil])
  (refine' head_val ?dw42 ?de42 ?dr42 ?dh42; (case' dw42 => rfl); (case' de42 => (first | exact fun _ _ _ => trivial | (intro t ht w; cases ht; simp [upE]))); (case' dr42 => (intro w' hw' _; go_simp; with_reducible rfl)); (case' dh42 => (try simp only [Act.put, List.setIfInBounds_toArray, List.set_cons_zero, List.set_cons_succ]))); (refine' head_val ?dw43 ?de43 ?dr43 ?dh43; (case' dw43 => rfl); (case' de43 => (first | exact fun _ _ _ => trivial | (intro t ht w; cases ht; simp [upE]))); (case' dr43 => (intro w' hw' _; go_simp; with_reducible rfl)); (case' dh43 => (try simp only [Act.put, List.setIfInBounds_toArray, List.set_cons_zero, List.set_cons_succ]))); (refine' head_val ?dw44 ?de44 ?dr44 ?dh44; (case' dw44 => rfl); (case' de44 => (first | exact fun _ _ _ => trivial | (intro t ht w; cases ht; simp [upE]))); (case' dr44 => (intro w' hw' _; go_simp; with_reducible rfl)); (case' dh44 => (try simp only [Act.put, List.setIfInBounds_toArray, List.set_cons_zero, List.set_cons_succ]))); (refine' head_val ?dw45 ?de45 ?dr45 ?dh45; (case' dw45 => rfl); (case' de45 => (first | exact fun _ _ _ => trivial | (intro t ht w; cases ht; simp [upE]))); (case' dr45 => (intro w' hw' _; go_simp; with_reducible rfl)); (case' dh45 => (try simp only [Act.put, List.setIfInBounds_toArray, List.set_cons_zero, List.set_cons_succ])))
  (refine' head_load1 (i := 2) (v := (.int .i64 4)) rfl ?_ rfl rfl HG2.out rfl Try.underlying34 rfl ?_; (first | exact fun _ _ _ => trivial | (intro t ht w; cases ht; simp [upE])); try simp only [Act.put, List.setIfInBounds_toArray, List.set_cons_zero, List.set_cons_succ])
  (refine' head_val ?dw46 ?de46 ?dr46 ?dh46; (case' dw46 => rfl); (case' de46 => (first | exact fun _ _ _ => trivial | (intro t ht w; cases ht; simp [upE]))); (case' dr46 => (intro w' hw' _; go_simp; with_reducible rfl)); (case' dh46 => (try simp only [Act.put, List.setIfInBounds_toArray, List.set_cons_zero, List.set_cons_succ]))); (refine' head_val ?dw47 ?de47 ?dr47 ?dh47; (case' dw47 => rfl); (case' de47 => (first | exact fun _ _ _ => trivial | (intro t ht w; cases ht; simp [upE]))); (case' dr47 => (intro w' hw' _; go_simp; with_reducible rfl)); (case' dh47 => (try simp only [Act.put, List.setIfInBounds_toArray, List.set_cons_zero, List.set_cons_succ]))); (refine' head_val ?dw48 ?de48 ?dr48 ?dh48; (case' dw48 => rfl); (case' de48 => (first | exact fun _ _ _ => trivial | (intro t ht w; cases ht; simp [upE]))); (case' dr48 => (intro w' hw' _; go_simp; with_reducible rfl)); (case' dh48 => (try simp only [Act.put, List.setIfInBounds_toArray, List.set_cons_zero, List.set_cons_succ])))
  refine head_nil ?_
  intro w3 hb _
  replace HG2 := hid (grow_block HG2.out hb)
  replace HF2 := hid (Fr.trans HF2.out (fr_grow hb))
  clear hb
  refine wpList_nil ?_
  go_wp2_with fail
  go_ret2
  exact ⟨rfl, HG2.out, HF2.out⟩
/-- Where there is none. -/
theorem rdCount_no (g : Nat) (L : List UInt8) (p most : Nat) (e : Int) (hp : p ≤ L.length) (hL : L.length ≤ 1000000000) (he : e ≠ 0) (hR : errR (numR L p) = e) (hv : valR (numR L p) = 0) (hpp : posR p (numR L p) = p) (w : World) (hg : w.heap[g]? = some (rdOb L p 0)) :
    Calls Try.prog 117 #[ptrV g, .int .i64 (most : Int)] w fun r w' => r = .returned (.tuple #[.int .i64 0, .bool false]) ∧ w'.heap[g]? = some (rdOb L p e) ∧ Fr (fun k => k = g) w w' := by
  have HG := hid hg
  have hN := rdNum g L p hp hL w hg
  rw [hR, hv, hpp] at hN
  have HN := hid hN
  have t1 : (e == 0) = false := by simp [he]
  clear hg hN hR hv hpp he
  unfold ptrV at *
  go_enter Try.func117, Try.ntmps117
  have HB := hid (grow_refl w)
  clear HB
  go_wp2_with (first | (refine opG_load1 (i := 0) (v := (.string (bs L))) rfl rfl rfl HG.out rfl Try.underlying9 rfl ?_) | (refine opG_load1 (i := 1) (v := (.int .i64 (p : Int))) rfl rfl rfl HG.out rfl Try.underlying3 rfl ?_) | (refine opG_load1 (i := 2) (v := (.int .i64 0)) rfl rfl rfl HG.out rfl Try.underlying34 rfl ?_) |  fail)
  refine HN.out.mono ?_
  rintro _ w1 ⟨rfl, hg, hf⟩
  have HG1 := hid hg
  have HF1 := hid hf
  clear hg hf HG HN
  go_wp2_with (first | (refine opG_load1 (i := 0) (v := (.string (bs L))) rfl rfl rfl HG1.out rfl Try.underlying9 rfl ?_) | (refine opG_load1 (i := 1) (v := (.int .i64 (p : Int))) rfl rfl rfl HG1.out rfl Try.underlying3 rfl ?_) | (refine opG_load1 (i := 2) (v := (.int .i64 e)) rfl rfl rfl HG1.out rfl Try.underlying34 rfl ?_) |  fail)
  (refine' wp_region_head 8 0 [_, _, _, _, _, _, _, _] rfl (by kernel_rfl) (by kernel_rfl) ?hreg49; case' hreg49 => simp only [List.take_succ_cons, List.take_zero, List.zip_cons_cons, List.zip_nil_right, List.drop_succ_cons, List.drop_zero, List.drop_nil])
  (refine' head_val ?dw50 ?de50 ?dr50 ?dh50; (case' dw50 => rfl); (case' de50 => (first | exact fun _ _ _ => trivial | (intro t ht w; cases ht; simp [upE]))); (case' dr50 => (intro w' hw' _; go_simp; with_reducible rfl)); (case' dh50 => (try simp only [Act.put, List.setIfInBounds_toArray, List.set_cons_zero, List.set_cons_succ]))); (refine' head_val ?dw51 ?de51 ?dr51 ?dh51; (case' dw51 => rfl); (case' de51 => (first | exact fun _ _ _ => trivial | (intro t ht w; cases ht; simp [upE]))); (case' dr51 => (intro w' hw' _; go_simp; with_reducible rfl)); (case' dh51 => (try simp only [Act.put, List.setIfInBounds_toArray, List.set_cons_zero, List.set_cons_succ]))); (refine' head_val ?dw52 ?de52 ?dr52 ?dh52; (case' dw52 => rfl); (case' de52 => (first | exact fun _ _ _ => trivial | (intro t ht w; cases ht; simp [upE]))); (case' dr52 => (intro w' hw' _; go_simp; with_reducible rfl)); (case' dh52 => (try simp only [Act.put, List.setIfInBounds_toArray, List.set_cons_zero, List.set_cons_succ]))); (refine' head_val ?dw53 ?de53 ?dr53 ?dh53; (case' dw53 => rfl); (case' de53 => (first | exact fun _ _ _ => trivial | (intro t ht w; cases ht; simp [upE]))); (case' dr53 => (intro w' hw' _; go_simp; with_reducible rfl)); (case' dh53 => (try simp only [Act.put, List.setIfInBounds_toArray, List.set_cons_zero, List.set_cons_succ])))
  (refine' head_load1 (i := 2) (v := (.int .i64 e)) rfl ?_ rfl rfl HG1.out rfl Try.underlying34 rfl ?_; (first | exact fun _ _ _ => trivial | (intro t ht w; cases ht; simp [upE])); try simp only [Act.put, List.setIfInBounds_toArray, List.set_cons_zero, List.set_cons_succ])
  (refine' head_val ?dw54 ?de54 ?dr54 ?dh54; (case' dw54 => rfl); (case' de54 => (first | exact fun _ _ _ => trivial | (intro t ht w; cases ht; simp [upE]))); (case' dr54 => (intro w' hw' _; go_simp; with_reducible rfl)); (case' dh54 => (try simp only [Act.put, List.setIfInBounds_toArray, List.set_cons_zero, List.set_cons_succ]))); (refine' head_val ?dw55 ?de55 ?dr55 ?dh55; (case' dw55 => rfl); (case' de55 => (first | exact fun _ _ _ => trivial | (intro t ht w; cases ht; simp [upE]))); (case' dr55 => (intro w' hw' _; go_simp; with_reducible rfl)); (case' dh55 => (try simp only [Act.put, List.setIfInBounds_toArray, List.set_cons_zero, List.set_cons_succ]))); (refine' head_val ?dw56 ?de56 ?dr56 ?dh56; (case' dw56 => rfl); (case' de56 => (first | exact fun _ _ _ => trivial | (intro t ht w; cases ht; simp [upE]))); (case' dr56 => (intro w' hw' _; go_simp; with_reducible rfl)); (case' dh56 => (try simp only [Act.put, List.setIfInBounds_toArray, List.set_cons_zero, List.set_cons_succ])))
  refine head_nil ?_
  intro w2 hb _
  replace HG1 := hid (grow_block HG1.out hb)
  replace HF1 := hid (Fr.trans HF1.out (fr_grow hb))
  clear hb
  refine wpList_nil ?_
  go_wp2_with fail
  go_ret2
  exact ⟨rfl, HG1.out, HF1.out⟩
def textR (L : List UInt8) (p most : Nat) : List UInt8 × Nat × Int := match numR L p with
  | .ok v k => if most < v then ([], p, 4) else if v ≤ L.length - (p + k) then ((L.drop (p + k)).take v, p + k + v, 0) else ([], p, 2)
  | .short => ([], p, 2)
  | .form => ([], p, 3)
theorem bs_nil : bs [] = ByteArray.empty := rfl
theorem rdText (g : Nat) (L : List UInt8) (p most : Nat) (hp : p ≤ L.length) (hL : L.length ≤ 1000000000) (w : World) (hg : w.heap[g]? = some (rdOb L p 0)) :
    Calls Try.prog 55 #[ptrV g, .int .i64 (most : Int)] w fun r w' => r = .returned (.string (bs (textR L p most).1)) ∧ w'.heap[g]? = some (rdOb L (textR L p most).2.1 (textR L p most).2.2) ∧ Fr (fun k => k = g) w w' := by
  have HG := hid hg
  have HNO := hid (fun (e : Int) (x : List UInt8 × Nat × Int) (hx : textR L p most = x) (hx1 : x.1 = []) (hx2 : x.2.1 = p) (hx3 : x.2.2 = e) (n : Int) (hC : Calls Try.prog 117 #[ptrV g, .int .i64 (most : Int)] w fun r w' => r = .returned (.tuple #[.int .i64 n, .bool false]) ∧ w'.heap[g]? = some (rdOb L p e) ∧ Fr (fun k => k = g) w w') => (show Calls Try.prog 55 #[ptrV g, .int .i64 (most : Int)] w fun r w' => r = .returned (.string (bs (textR L p most).1)) ∧ w'.heap[g]? = some (rdOb L (textR L p most).2.1 (textR L p most).2.2) ∧ Fr (fun k => k = g) w w' from by
    rw [hx, hx1, hx2, hx3, bs_nil]
    have HC := hid hC
    clear hx hx1 hx2 hx3 hC
    unfold ptrV at *
    go_enter Try.func55, Try.ntmps55
    have HB := hid (grow_refl w)
    clear HB
    go_wp2_with (first | (refine opG_load1 (i := 0) (v := (.string (bs L))) rfl rfl rfl HG.out rfl Try.underlying9 rfl ?_) | (refine opG_load1 (i := 1) (v := (.int .i64 (p : Int))) rfl rfl rfl HG.out rfl Try.underlying3 rfl ?_) | (refine opG_load1 (i := 2) (v := (.int .i64 0)) rfl rfl rfl HG.out rfl Try.underlying34 rfl ?_) |  fail)
    refine HC.out.mono ?_
    rintro _ w1 ⟨rfl, hg, hf⟩
    have HG1 := hid hg
    have HF1 := hid hf
    clear hg hf HG HC
    go_wp2_with fail
    go_ret
    exact ⟨rfl, HG1.out, HF1.out⟩))
  cases hR : numR L p with
  | short => exact HNO.out 2 _ (by unfold textR; rw [hR]) rfl rfl rfl 0 (rdCount_no g L p most 2 hp hL (by decide) (by rw [hR]; rfl) (by rw [hR]; rfl) (by rw [hR]; rfl) w hg)
  | form => exact HNO.out 3 _ (by unfold textR; rw [hR]) rfl rfl rfl 0 (rdCount_no g L p most 3 hp hL (by decide) (by rw [hR]; rfl) (by rw [hR]; rfl) (by rw [hR]; rfl) w hg)
  | ok v k =>
    obtain ⟨u, j, h1, h2, h3, h4, h5, h6, h7⟩ := rdN_once _ _ _ _ _ hR
    have hk : p + k ≤ L.length := by rw [List.length_drop] at h4; omega
    clear h1 h2 h3 h4 h5 h6
    by_cases hm : most < v
    · exact HNO.out 4 ([], p, 4) (by unfold textR; rw [hR]; simp only [if_pos hm]) rfl rfl rfl (v : Int) (rdCount_long g L p most v k hp hL hR h7 hm w hg)
    · have HC := hid (rdCount_ok g L p most v k hp hL hR h7 (by omega) w hg)
      by_cases hs : v ≤ L.length - (p + k)
      · have hx : textR L p most = ((L.drop (p + k)).take v, p + k + v, 0) := by unfold textR; rw [hR]; simp only [if_neg hm, if_pos hs]
        rw [hx]
        have HTK := hid (fun w hg => rdTake g L (p + k) v hk hL (by omega) w hg)
        clear hg hR hm hs hx HNO
        unfold ptrV at *
        go_enter Try.func55, Try.ntmps55
        have HB := hid (grow_refl w)
        clear HB
        go_wp2_with (first | (refine opG_load1 (i := 0) (v := (.string (bs L))) rfl rfl rfl HG.out rfl Try.underlying9 rfl ?_) | (refine opG_load1 (i := 1) (v := (.int .i64 (p : Int))) rfl rfl rfl HG.out rfl Try.underlying3 rfl ?_) | (refine opG_load1 (i := 2) (v := (.int .i64 0)) rfl rfl rfl HG.out rfl Try.underlying34 rfl ?_) |  fail)
        refine HC.out.mono ?_
        rintro _ w1 ⟨rfl, hg, hf⟩
        have HG1 := hid hg
        have HF1 := hid hf
        clear hg hf HG HC
        go_wp2_with fail
        refine (HTK.out _ HG1.out).mono ?_
        rintro _ w2 ⟨rfl, hg, hf⟩
        have HG2 := hid hg
        have HF2 := hid (HF1.out.trans hf)
        clear hg hf HG1 HF1
        go_wp2_with fail
        go_ret
        exact ⟨rfl, HG2.out, HF2.out⟩
      · have hx : textR L p most = ([], p, 2) := by unfold textR; rw [hR]; simp only [if_neg hm, if_neg hs]
        rw [hx]
        have HTK := hid (fun w hg => rdTake_short g L (p + k) v hk hL (by omega) (by omega) w hg)
        have HBK := hid (fun w hg => rdBack g L (p + k) p 2 2 w hg)
        clear hg hR hm hs hx HNO
        unfold ptrV at *
        go_enter Try.func55, Try.ntmps55
        have HB := hid (grow_refl w)
        clear HB
        go_wp2_with (first | (refine opG_load1 (i := 0) (v := (.string (bs L))) rfl rfl rfl HG.out rfl Try.underlying9 rfl ?_) | (refine opG_load1 (i := 1) (v := (.int .i64 (p : Int))) rfl rfl rfl HG.out rfl Try.underlying3 rfl ?_) | (refine opG_load1 (i := 2) (v := (.int .i64 0)) rfl rfl rfl HG.out rfl Try.underlying34 rfl ?_) |  fail)
        refine HC.out.mono ?_
        rintro _ w1 ⟨rfl, hg, hf⟩
        have HG1 := hid hg
        have HF1 := hid hf
        clear hg hf HG HC
        go_wp2_with fail
        refine (HTK.out _ HG1.out).mono ?_
        rintro _ w2 ⟨rfl, hg, hf⟩
        have HG2 := hid hg
        have HF2 := hid (HF1.out.trans hf)
        clear hg hf HG1 HF1
        go_wp2_with (first | (refine opG_load1 (i := 0) (v := (.string (bs L))) rfl rfl rfl HG2.out rfl Try.underlying9 rfl ?_) | (refine opG_load1 (i := 1) (v := (.int .i64 ((p + k : Nat) : Int))) rfl rfl rfl HG2.out rfl Try.underlying3 rfl ?_) | (refine opG_load1 (i := 2) (v := (.int .i64 2)) rfl rfl rfl HG2.out rfl Try.underlying34 rfl ?_) |  fail)
        refine (HBK.out _ HG2.out).mono ?_
        rintro _ w3 ⟨rfl, hg, hf⟩
        have HG3 := hid (show w3.heap[g]? = some (rdOb L p 2) from hg)
        have HF3 := hid (HF2.out.trans hf)
        clear hg hf HG2 HF2
        go_wp2_with fail
        go_ret
        exact ⟨rfl, HG3.out, HF3.out⟩
end Go.Proofs.Ytabkaflccaklhaa
