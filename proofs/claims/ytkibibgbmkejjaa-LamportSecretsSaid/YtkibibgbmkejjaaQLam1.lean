/- lamport: secrets, public sums, which bits are right; the references: contracts. -/
import Derived.Test.YtkibibgbmkejjaaQTagC
set_option linter.unusedSimpArgs false
set_option linter.unusedVariables false
namespace Go.Proofs.Ytkibibgbmkejjaa
open Go.RowKit
open Go.Qk hiding rotr b4
set_option maxHeartbeats 1000000
set_option maxRecDepth 100000
theorem wf_hi {a : Int} (h : (Lit.int .i64 a).wf = true) : a ≤ 9223372036854775807 := by
  simp [Lit.wf, IntKind.min, IntKind.max, IntKind.signed, IntKind.bits] at h
  omega
theorem wf_lo {a : Int} (h : (Lit.int .i64 a).wf = true) : -9223372036854775808 ≤ a := by
  simp [Lit.wf, IntKind.min, IntKind.max, IntKind.signed, IntKind.bits] at h
  omega
theorem lamNumber8 (v : Nat) (hv : (v : Int) ≤ 9223372036854775807) (w : World) :
    Calls Try.prog 111 #[.int .i64 v, .int .i64 8] w fun e w' => e = .returned (.string (bs (be 8 v))) ∧ Below w.heap.size w w' := by
  have hw : IntKind.u64.wrap (v : Int) = (v : Int) := by simp [IntKind.wrap, IntKind.signed, IntKind.bits]; omega
  have HV := hid hv
  clear hv
  go_enter Try.func111, Try.ntmps111
  have HB := hid (grow_refl w)
  go_wp2_with fail
  refine (number8 v (by have := HV.out; omega) _).mono ?_
  rintro e w1 ⟨rfl, hb⟩
  replace HB := hid (Grow.trans HB.out hb)
  clear hb
  go_wp2
  go_ret
  exact ⟨rfl, HB.out⟩
theorem refNum8 (v : Nat) (hv : (v : Int) ≤ 9223372036854775807) (w : World) :
    Calls Try.prog 112 #[.int .i64 v, .int .i64 8] w fun e w' => e = .returned (.string (bs (be 8 v))) ∧ Below w.heap.size w w' := by
  have hw : IntKind.u64.wrap (v : Int) = (v : Int) := by simp [IntKind.wrap, IntKind.signed, IntKind.bits]; omega
  have HV := hid hv
  clear hv
  go_enter Try.func112, Try.ntmps112
  have HB := hid (grow_refl w)
  go_wp2_with fail
  refine (refNumber8 v (by have := HV.out; omega) _).mono ?_
  rintro e w1 ⟨rfl, hb⟩
  replace HB := hid (Grow.trans HB.out hb)
  clear hb
  go_wp2
  go_ret
  exact ⟨rfl, HB.out⟩
theorem lamNumber2 (v : Nat) (hv : (v : Int) ≤ 65535) (w : World) :
    Calls Try.prog 111 #[.int .i64 v, .int .i64 2] w fun e w' => e = .returned (.string (bs (be 2 v))) ∧ Below w.heap.size w w' := by
  have hw : IntKind.u64.wrap (v : Int) = (v : Int) := by simp [IntKind.wrap, IntKind.signed, IntKind.bits]; omega
  have HV := hid hv
  clear hv
  go_enter Try.func111, Try.ntmps111
  have HB := hid (grow_refl w)
  go_wp2_with fail
  refine (number2 v (by have := HV.out; omega) _).mono ?_
  rintro e w1 ⟨rfl, hb⟩
  replace HB := hid (Grow.trans HB.out hb)
  clear hb
  go_wp2
  go_ret
  exact ⟨rfl, HB.out⟩
theorem refNum2 (v : Nat) (hv : (v : Int) ≤ 65535) (w : World) :
    Calls Try.prog 112 #[.int .i64 v, .int .i64 2] w fun e w' => e = .returned (.string (bs (be 2 v))) ∧ Below w.heap.size w w' := by
  have hw : IntKind.u64.wrap (v : Int) = (v : Int) := by simp [IntKind.wrap, IntKind.signed, IntKind.bits]; omega
  have HV := hid hv
  clear hv
  go_enter Try.func112, Try.ntmps112
  have HB := hid (grow_refl w)
  go_wp2_with fail
  refine (refNumber2 v (by have := HV.out; omega) _).mono ?_
  rintro e w1 ⟨rfl, hb⟩
  replace HB := hid (Grow.trans HB.out hb)
  clear hb
  go_wp2
  go_ret
  exact ⟨rfl, HB.out⟩
theorem lamNumber1 (v : Nat) (hv : (v : Int) ≤ 1) (w : World) :
    Calls Try.prog 111 #[.int .i64 v, .int .i64 1] w fun e w' => e = .returned (.string (bs (be 1 v))) ∧ Below w.heap.size w w' := by
  have hw : IntKind.u64.wrap (v : Int) = (v : Int) := by simp [IntKind.wrap, IntKind.signed, IntKind.bits]; omega
  have HV := hid hv
  clear hv
  go_enter Try.func111, Try.ntmps111
  have HB := hid (grow_refl w)
  go_wp2_with fail
  refine (number1 v (by have := HV.out; omega) _).mono ?_
  rintro e w1 ⟨rfl, hb⟩
  replace HB := hid (Grow.trans HB.out hb)
  clear hb
  go_wp2
  go_ret
  exact ⟨rfl, HB.out⟩
theorem refNum1 (v : Nat) (hv : (v : Int) ≤ 1) (w : World) :
    Calls Try.prog 112 #[.int .i64 v, .int .i64 1] w fun e w' => e = .returned (.string (bs (be 1 v))) ∧ Below w.heap.size w w' := by
  have hw : IntKind.u64.wrap (v : Int) = (v : Int) := by simp [IntKind.wrap, IntKind.signed, IntKind.bits]; omega
  have HV := hid hv
  clear hv
  go_enter Try.func112, Try.ntmps112
  have HB := hid (grow_refl w)
  go_wp2_with fail
  refine (refNumber1 v (by have := HV.out; omega) _).mono ?_
  rintro e w1 ⟨rfl, hb⟩
  replace HB := hid (Grow.trans HB.out hb)
  clear hb
  go_wp2
  go_ret
  exact ⟨rfl, HB.out⟩
theorem refClamp (v most : Int) (c : Nat) (h : (c : Int) = if v < 0 then 0 else if most < v then most else v) (w : World) :
    Calls Try.prog 113 #[.int .i64 v, .int .i64 most] w fun e w' => e = .returned (.int .i64 c) ∧ Below w.heap.size w w' := by
  by_cases h1 : v < 0
  · rw [if_pos h1] at h
    rw [h]
    go_enter Try.func113, Try.ntmps113
    have HB := hid (grow_refl w)
    go_wp2
    go_ret
    exact ⟨rfl, HB.out⟩
  · rw [if_neg h1] at h
    by_cases h2 : most < v
    · rw [if_pos h2] at h
      rw [h]
      go_enter Try.func113, Try.ntmps113
      have HB := hid (grow_refl w)
      go_wp2
      go_ret
      exact ⟨rfl, HB.out⟩
    · rw [if_neg h2] at h
      rw [h]
      go_enter Try.func113, Try.ntmps113
      have HB := hid (grow_refl w)
      go_wp2
      go_ret
      exact ⟨rfl, HB.out⟩
def clampN (v most : Int) : Nat := (if v < 0 then 0 else if most < v then most else v).toNat
theorem clampN_eq (v most : Int) (h : 0 ≤ most) : ((clampN v most : Nat) : Int) = if v < 0 then 0 else if most < v then most else v := by
  unfold clampN; split <;> (try split) <;> omega
def secretParts (seed : ByteArray) (leaf bit side : Int) : List ByteArray := [seed, bs (be 8 (clampN leaf 9223372036854775807)), bs (be 2 (clampN bit 65535)), bs (be 1 (clampN side 1))]
/-- A secret. -/
def secretOf (seed : ByteArray) (leaf bit side : Int) : List UInt8 := tagSum ⟨#[115, 101, 99, 114, 101, 116]⟩ (secretParts seed leaf bit side)
theorem secretOf_length (seed : ByteArray) (leaf bit side : Int) : (secretOf seed leaf bit side).length = 32 := tagSum_length _ _
theorem secret_small (seed : ByteArray) (leaf bit side : Int) (hs : seed.size ≤ 1000000) : (textOf ⟨#[115, 101, 99, 114, 101, 116]⟩ (secretParts seed leaf bit side)).length ≤ 140737488355328 := by
  have h : (⟨#[115, 101, 99, 114, 101, 116]⟩ : ByteArray).size = 6 := rfl
  simp [textOf, partsOf, secretParts, be_length, bl_length, bs_size, h]
  omega
theorem lamSecret (seed : ByteArray) (leaf bit side : Int) (hs : seed.size ≤ 1000000) (hl : leaf ≤ 9223372036854775807) (w : World) :
    Calls Try.prog 48 #[.string seed, .int .i64 leaf, .int .i64 bit, .int .i64 side] w fun e w' => e = .returned (idV (secretOf seed leaf bit side)) ∧ Below w.heap.size w w' := by
  have HS := hid (secret_small seed leaf bit side hs)
  have HTL := hid (secretOf_length seed leaf bit side)
  have e1 : max leaf 0 = ((clampN leaf 9223372036854775807 : Nat) : Int) := by rw [clampN_eq _ _ (by omega)]; split <;> (try split) <;> omega
  have e2 : min (max bit 0) 65535 = ((clampN bit 65535 : Nat) : Int) := by rw [clampN_eq _ _ (by omega)]; split <;> (try split) <;> omega
  have e3 : min (max side 0) 1 = ((clampN side 1 : Nat) : Int) := by rw [clampN_eq _ _ (by omega)]; split <;> (try split) <;> omega
  have q1 := hid (show ((clampN leaf 9223372036854775807 : Nat) : Int) ≤ 9223372036854775807 by rw [← e1]; omega)
  have q2 := hid (show ((clampN bit 65535 : Nat) : Int) ≤ 65535 by rw [← e2]; omega)
  have q3 := hid (show ((clampN side 1 : Nat) : Int) ≤ 1 by rw [← e3]; omega)
  have HP := hid (show secretParts seed leaf bit side = [seed, bs (be 8 (clampN leaf 9223372036854775807)), bs (be 2 (clampN bit 65535)), bs (be 1 (clampN side 1))] from rfl)
  have HF := hid (show secretOf seed leaf bit side = tagSum ⟨#[115, 101, 99, 114, 101, 116]⟩ (secretParts seed leaf bit side) from rfl)
  clear hl
  rw [HP.out] at HS HF
  generalize clampN leaf 9223372036854775807 = L at *
  generalize clampN bit 65535 = B at *
  generalize clampN side 1 = S at *
  generalize secretOf seed leaf bit side = R at *
  clear HP hs
  go_enter Try.func48, Try.ntmps48
  apply wp_seq_k; intro _ _; apply wp_region_lit
  refine op_alloc rfl rfl ?_
  intro gr W hgl hgu hb hr
  have HR := hid hr; have HB := hid hb; have HRL := hid hgl; have HRU := hid hgu
  clear hr hb hgl hgu
  try simp only [Act.put, List.setIfInBounds_toArray, List.set_cons_zero, List.set_cons_succ]
  try refine wpList_nil ?_
  go_wp2_with fail
  refine (lamNumber8 L q1.out _).mono ?_
  rintro e w1 ⟨rfl, hb⟩
  replace HR := hid (grow_block HR.out hb)
  replace HB := hid (Grow.trans HB.out hb)
  clear hb
  clear e1
  go_wp2_with fail
  refine (lamNumber2 B q2.out _).mono ?_
  rintro e w2 ⟨rfl, hb⟩
  replace HR := hid (grow_block HR.out hb)
  replace HB := hid (Grow.trans HB.out hb)
  clear hb
  clear e2
  go_wp2_with fail
  refine (lamNumber1 S q3.out _).mono ?_
  rintro e w3 ⟨rfl, hb⟩
  replace HR := hid (grow_block HR.out hb)
  replace HB := hid (Grow.trans HB.out hb)
  clear hb
  clear e3
  go_wp2_with fail
  refine (tagOf ⟨#[115, 101, 99, 114, 101, 116]⟩ _ _ _ [seed, bs (be 8 L), bs (be 2 B), bs (be 1 S)] _ (strRow_alloc _ [seed, bs (be 8 L), bs (be 2 B), bs (be 1 S)] _ (by simp)) rfl (by decide) HS.out).mono ?_
  rintro e w4 ⟨rfl, hb⟩
  replace hb := Grow.trans (grow_alloc _ _) hb
  replace HR := hid (grow_block HR.out hb)
  replace HB := hid (Grow.trans HB.out hb)
  clear hb
  rw [← HF.out]
  go_wp2_with (first |  (refine op_allocstore (l := R) rfl rfl rfl rfl rfl rfl (fun _ => rfl) ⟨fun _ => rfl, HTL.out⟩ ?_))
  intro g9 w5 hgl hgu hb hr
  have H9L := hid (Nat.le_trans HB.out.size hgl)
  replace HR := hid (grow_block HR.out hb)
  replace HB := hid (Grow.trans HB.out hb)
  have H9 := hid hr; have H9U := hid hgu
  clear hr hgl hgu hb
  try simp only [Act.put, List.setIfInBounds_toArray, List.set_cons_zero, List.set_cons_succ]
  go_wp2_with (first | (refine op_loadId rfl rfl rfl H9.out (HTL.out) ?_) |  (refine op_buildId rfl rfl ?_) | (refine op_storeId (l := R) rfl rfl rfl rfl rfl HR.out (by rfl) (HTL.out) ?_))
  intro wz hz _ hbz
  have HZ := hid hz; have HBZ := hid (hbz _ _ HB.out HRL.out)
  clear hz hbz
  go_wp2_with fail
  refine bodyPost_ret (ret_id rfl rfl HZ.out (HTL.out)) rfl ⟨?_, HBZ.out⟩
  rfl
theorem refSecret (seed : ByteArray) (leaf bit side : Int) (hs : seed.size ≤ 1000000) (w : World) :
    Calls Try.prog 49 #[.string seed, .int .i64 leaf, .int .i64 bit, .int .i64 side] w fun e w' => e = .returned (idV (secretOf seed leaf bit side)) ∧ Below w.heap.size w w' := by
  have HS := hid (secret_small seed leaf bit side hs)
  have HTL := hid (secretOf_length seed leaf bit side)
  have e1 := hid (clampN_eq leaf 9223372036854775807 (by omega))
  have e2 := hid (clampN_eq bit 65535 (by omega))
  have e3 := hid (clampN_eq side 1 (by omega))
  have q1 := hid (show ((clampN leaf 9223372036854775807 : Nat) : Int) ≤ 9223372036854775807 by rw [e1.out]; split <;> (try split) <;> omega)
  have q2 := hid (show ((clampN bit 65535 : Nat) : Int) ≤ 65535 by rw [e2.out]; split <;> (try split) <;> omega)
  have q3 := hid (show ((clampN side 1 : Nat) : Int) ≤ 1 by rw [e3.out]; split <;> (try split) <;> omega)
  have HP := hid (show secretParts seed leaf bit side = [seed, bs (be 8 (clampN leaf 9223372036854775807)), bs (be 2 (clampN bit 65535)), bs (be 1 (clampN side 1))] from rfl)
  have HF := hid (show secretOf seed leaf bit side = tagSum ⟨#[115, 101, 99, 114, 101, 116]⟩ (secretParts seed leaf bit side) from rfl)
  rw [HP.out] at HS HF
  generalize clampN leaf 9223372036854775807 = L at *
  generalize clampN bit 65535 = B at *
  generalize clampN side 1 = S at *
  generalize secretOf seed leaf bit side = R at *
  clear HP hs
  go_enter Try.func49, Try.ntmps49
  apply wp_seq_k; intro _ _; apply wp_region_lit
  refine op_alloc rfl rfl ?_
  intro gr W hgl hgu hb hr
  have HR := hid hr; have HB := hid hb; have HRL := hid hgl; have HRU := hid hgu
  clear hr hb hgl hgu
  try simp only [Act.put, List.setIfInBounds_toArray, List.set_cons_zero, List.set_cons_succ]
  refine wpList_nil ?_
  go_wp2_with fail
  refine (refClamp leaf 9223372036854775807 L e1.out _).mono ?_
  rintro e w1 ⟨rfl, hb⟩
  replace HR := hid (grow_block HR.out hb)
  replace HB := hid (Grow.trans HB.out hb)
  clear hb
  go_wp2_with fail
  refine (refNum8 L q1.out _).mono ?_
  rintro e w2 ⟨rfl, hb⟩
  replace HR := hid (grow_block HR.out hb)
  replace HB := hid (Grow.trans HB.out hb)
  clear hb
  go_wp2_with fail
  refine (refClamp bit 65535 B e2.out _).mono ?_
  rintro e w3 ⟨rfl, hb⟩
  replace HR := hid (grow_block HR.out hb)
  replace HB := hid (Grow.trans HB.out hb)
  clear hb
  go_wp2_with fail
  refine (refNum2 B q2.out _).mono ?_
  rintro e w4 ⟨rfl, hb⟩
  replace HR := hid (grow_block HR.out hb)
  replace HB := hid (Grow.trans HB.out hb)
  clear hb
  go_wp2_with fail
  refine (refClamp side 1 S e3.out _).mono ?_
  rintro e w5 ⟨rfl, hb⟩
  replace HR := hid (grow_block HR.out hb)
  replace HB := hid (Grow.trans HB.out hb)
  clear hb
  go_wp2_with fail
  refine (refNum1 S q3.out _).mono ?_
  rintro e w6 ⟨rfl, hb⟩
  replace HR := hid (grow_block HR.out hb)
  replace HB := hid (Grow.trans HB.out hb)
  clear hb
  go_wp2_with fail
  refine (refOf ⟨#[115, 101, 99, 114, 101, 116]⟩ _ _ _ [seed, bs (be 8 L), bs (be 2 B), bs (be 1 S)] _ (strRow_alloc _ [seed, bs (be 8 L), bs (be 2 B), bs (be 1 S)] _ (by simp)) rfl (by decide) HS.out).mono ?_
  rintro e w7 ⟨rfl, hb⟩
  replace hb := Grow.trans (grow_alloc _ _) hb
  replace HR := hid (grow_block HR.out hb)
  replace HB := hid (Grow.trans HB.out hb)
  clear hb
  rw [← HF.out]
  go_wp2_with (first |  (refine op_buildId rfl rfl ?_) | (refine op_storeId (l := R) rfl rfl rfl rfl rfl HR.out (by rfl) (HTL.out) ?_))
  intro wz hz _ hbz
  have HZ := hid hz; have HBZ := hid (hbz _ _ HB.out HRL.out)
  clear hz hbz
  go_wp2_with fail
  refine bodyPost_ret (ret_id rfl rfl HZ.out (HTL.out)) rfl ⟨?_, HBZ.out⟩
  rfl
/-- A secret's public sum. -/
def publicOf (a : List UInt8) : List UInt8 := tagSum ⟨#[112, 117, 98, 108, 105, 99]⟩ [bs a]
theorem publicOf_length (a : List UInt8) : (publicOf a).length = 32 := tagSum_length _ _
theorem lamPublic (a : List UInt8) (ha : a.length = 32) (w : World) :
    Calls Try.prog 50 #[idV a] w fun e w' => e = .returned (idV (publicOf a)) ∧ Below w.heap.size w w' := by
  have HA := hid ha
  have HTL := hid (publicOf_length a)
  have HS := hid (textOf_one ⟨#[112, 117, 98, 108, 105, 99]⟩ a (by decide) (by omega))
  clear ha
  go_enter Try.func50, Try.ntmps50
  have HB := hid (grow_refl w)
  apply wp_seq_k; intro _ _; apply wp_region_lit
  refine op_box (l := a) rfl rfl rfl ?_
  intro gx w1 hgl hgu hb hr
  have XL := hid (Nat.le_trans HB.out.size hgl)
  replace HB := hid (Grow.trans HB.out hb)
  have X := hid hr; have XU := hid hgu
  clear hr hgl hgu hb
  try simp only [Act.put, List.setIfInBounds_toArray, List.set_cons_zero, List.set_cons_succ]
  refine op_alloc rfl rfl ?_
  intro gr w2 hgl hgu hb hr
  have HRL := hid (Nat.le_trans HB.out.size hgl)
  replace HB := hid (Grow.trans HB.out hb)
  replace X := hid (grow_block X.out hb)
  have HR := hid hr; have HRU := hid hgu
  clear hr hgl hgu hb
  try simp only [Act.put, List.setIfInBounds_toArray, List.set_cons_zero, List.set_cons_succ]
  refine wpList_nil ?_
  have hcx := run_strId X.out HA.out
  go_wp2_with fail
  refine (tagOf ⟨#[112, 117, 98, 108, 105, 99]⟩ _ _ _ [bs a] _ (strRow_alloc _ [bs a] _ (by simp)) rfl (by decide) HS.out).mono ?_
  rintro e w3 ⟨rfl, hb⟩
  replace hb := Grow.trans (grow_alloc _ _) hb
  replace HB := hid (Grow.trans HB.out hb)
  replace X := hid (grow_block X.out hb)
  replace HR := hid (grow_block HR.out hb)
  clear hb
  clear hcx
  go_wp2_with (first |  (refine op_allocstore (l := publicOf a) rfl rfl rfl rfl rfl rfl (fun _ => rfl) ⟨fun _ => rfl, HTL.out⟩ ?_))
  intro g9 w4 hgl hgu hb hr
  have H9L := hid (Nat.le_trans HB.out.size hgl)
  replace HB := hid (Grow.trans HB.out hb)
  replace X := hid (grow_block X.out hb)
  replace HR := hid (grow_block HR.out hb)
  have H9 := hid hr; have H9U := hid hgu
  clear hr hgl hgu hb
  try simp only [Act.put, List.setIfInBounds_toArray, List.set_cons_zero, List.set_cons_succ]
  go_wp2_with (first | (refine op_loadId rfl rfl rfl H9.out (HTL.out) ?_) |  (refine op_buildId rfl rfl ?_) | (refine op_storeId (l := publicOf a) rfl rfl rfl rfl rfl HR.out (by rfl) (HTL.out) ?_))
  intro wz hz _ hbz
  have HZ := hid hz; have HBZ := hid (hbz _ _ HB.out HRL.out)
  clear hz hbz
  go_wp2_with fail
  refine bodyPost_ret (ret_id rfl rfl HZ.out (HTL.out)) rfl ⟨?_, HBZ.out⟩
  rfl
theorem refPublic (a : List UInt8) (ha : a.length = 32) (w : World) :
    Calls Try.prog 51 #[idV a] w fun e w' => e = .returned (idV (publicOf a)) ∧ Below w.heap.size w w' := by
  have HA := hid ha
  have HTL := hid (publicOf_length a)
  have HS := hid (textOf_one ⟨#[112, 117, 98, 108, 105, 99]⟩ a (by decide) (by omega))
  clear ha
  go_enter Try.func51, Try.ntmps51
  have HB := hid (grow_refl w)
  apply wp_seq_k; intro _ _; apply wp_region_lit
  refine op_box (l := a) rfl rfl rfl ?_
  intro gx w1 hgl hgu hb hr
  have XL := hid (Nat.le_trans HB.out.size hgl)
  replace HB := hid (Grow.trans HB.out hb)
  have X := hid hr; have XU := hid hgu
  clear hr hgl hgu hb
  try simp only [Act.put, List.setIfInBounds_toArray, List.set_cons_zero, List.set_cons_succ]
  refine op_alloc rfl rfl ?_
  intro gr w2 hgl hgu hb hr
  have HRL := hid (Nat.le_trans HB.out.size hgl)
  replace HB := hid (Grow.trans HB.out hb)
  replace X := hid (grow_block X.out hb)
  have HR := hid hr; have HRU := hid hgu
  clear hr hgl hgu hb
  try simp only [Act.put, List.setIfInBounds_toArray, List.set_cons_zero, List.set_cons_succ]
  refine wpList_nil ?_
  go_wp2_with (first | (refine op_loadId rfl rfl rfl X.out (HA.out) ?_) |  fail)
  refine (ref3Bytes a HA.out _).mono ?_
  rintro e w3 ⟨rfl, hb⟩
  replace HB := hid (Grow.trans HB.out hb)
  replace X := hid (grow_block X.out hb)
  replace HR := hid (grow_block HR.out hb)
  clear hb
  go_wp2_with fail
  refine (refOf ⟨#[112, 117, 98, 108, 105, 99]⟩ _ _ _ [bs a] _ (strRow_alloc _ [bs a] _ (by simp)) rfl (by decide) HS.out).mono ?_
  rintro e w4 ⟨rfl, hb⟩
  replace hb := Grow.trans (grow_alloc _ _) hb
  replace HB := hid (Grow.trans HB.out hb)
  replace X := hid (grow_block X.out hb)
  replace HR := hid (grow_block HR.out hb)
  clear hb
  go_wp2_with (first | (refine op_loadId rfl rfl rfl X.out (HA.out) ?_) |  (refine op_buildId rfl rfl ?_) | (refine op_storeId (l := publicOf a) rfl rfl rfl rfl rfl HR.out (by rfl) (HTL.out) ?_))
  intro wz hz _ hbz
  have HZ := hid hz; have HBZ := hid (hbz _ _ HB.out HRL.out)
  clear hz hbz
  go_wp2_with fail
  refine bodyPost_ret (ret_id rfl rfl HZ.out (HTL.out)) rfl ⟨?_, HBZ.out⟩
  rfl
/-- May there be so many bits? -/
def rightB (bits : Int) : Bool := decide (8 ≤ bits) && decide (bits ≤ 256) && decide (bits % 8 = 0)
theorem lamRight (bits : Int) (w : World) : Calls Try.prog 52 #[.int .i64 bits] w fun e w' => e = .returned (.bool (rightB bits)) ∧ Below w.heap.size w w' := by
  by_cases h1 : 8 ≤ bits
  · by_cases h2 : bits ≤ 256
    · by_cases h3 : bits % 8 = 0
      · have HR := hid (show rightB bits = true by simp [rightB, h1, h2, h3])
        rw [HR.out]
        have t3 : ((bits % 8) == 0) = true := by simp; omega
        go_enter Try.func52, Try.ntmps52
        have HB := hid (grow_refl w)
        go_wp2
        go_ret
        exact ⟨rfl, HB.out⟩
      · have HR := hid (show rightB bits = false by simp [rightB, h3])
        rw [HR.out]
        have t3 : ((bits % 8) == 0) = false := by simp; omega
        go_enter Try.func52, Try.ntmps52
        have HB := hid (grow_refl w)
        go_wp2
        go_ret
        exact ⟨rfl, HB.out⟩
    · have HR := hid (show rightB bits = false by simp [rightB, h2])
      rw [HR.out]
      have t2 : decide (bits ≤ 256) = false := by simp; omega
      go_enter Try.func52, Try.ntmps52
      have HB := hid (grow_refl w)
      go_wp2
      go_ret
      exact ⟨rfl, HB.out⟩
  · have HR := hid (show rightB bits = false by simp [rightB, h1])
    rw [HR.out]
    have t2 : decide (8 ≤ bits) = false := by simp; omega
    go_enter Try.func52, Try.ntmps52
    have HB := hid (grow_refl w)
    go_wp2
    go_ret
    exact ⟨rfl, HB.out⟩
theorem refRight (bits : Int) (w : World) : Calls Try.prog 53 #[.int .i64 bits] w fun e w' => e = .returned (.bool (rightB bits)) ∧ Below w.heap.size w w' := by
  go_enter Try.func53, Try.ntmps53
  have HB := hid (grow_refl w)
  go_wp2_with fail
  go_loopg [3] 34 (fun q i wr => ∃ k : Nat, 1 ≤ k ∧ k ≤ 33 ∧ q = 35 - k ∧ i = .int .i64 (8 * (k : Int)) ∧ Hid (∀ j : Nat, 1 ≤ j → j < k → bits ≠ 8 * (j : Int)) ∧ Hid (Grow w wr))
  case atStart => exact ⟨1, by omega, by omega, by omega, rfl, hid (show ∀ j : Nat, 1 ≤ j → j < 1 → bits ≠ 8 * (j : Int) from fun j h1 h2 => by omega), HB⟩
  case round =>
    clear HB
    obtain ⟨k, hk1, hk, hq, rfl, hA, HB⟩ := hrel
    by_cases hlt : k < 33
    · have t1 : decide (8 * (k : Int) ≤ 256) = true := by simp; omega
      by_cases he : 8 * (k : Int) = bits
      · have t2 : (8 * (k : Int) == bits) = true := by simpa using he
        have HR := hid (show rightB bits = true by unfold rightB; rw [decide_eq_true (by omega), decide_eq_true (by omega), decide_eq_true (by omega)]; rfl)
        clear he
        go_wp2
        go_ret
        exact ⟨ret_bool HR.out.symm, HB.out⟩
      · have t2 : (8 * (k : Int) == bits) = false := by simpa using he
        have HA2 := hid (show ∀ j : Nat, 1 ≤ j → j < k + 1 → bits ≠ 8 * (j : Int) from fun j h1 h2 => by
          by_cases h3 : j < k
          · exact hA.out j h1 h3
          · obtain rfl : j = k := by omega
            omega)
        clear he
        go_wp2
        go_roundg (35 - (k + 1))
        case rel => exact ⟨k + 1, by omega, by omega, rfl, by go_num, HA2, HB⟩
        case measure => omega
    · obtain rfl : k = 33 := by omega
      have HR := hid (show rightB bits = false by
        cases h : rightB bits with
        | false => rfl
        | true =>
          simp [rightB] at h
          exact absurd (show bits = 8 * (((bits / 8).toNat : Nat) : Int) by omega) (hA.out (bits / 8).toNat (by omega) (by omega)))
      go_wp2
      go_ret
      exact ⟨ret_bool HR.out.symm, HB.out⟩
theorem awake06 (w : World) : Calls Try.prog 47 #[] w fun e w' => e = .returned (.bool true) ∧ Below w.heap.size w w' := by
  have r1 : rightB 8 = true := by decide
  have r2 : rightB 256 = true := by decide
  have r3 : rightB 12 = false := by decide
  have r4 : rightB 264 = false := by decide
  go_enter Try.func47, Try.ntmps47
  have HB := hid (grow_refl w)
  go_wp2_with fail
  refine (lamRight 8 _).mono ?_
  rintro e w1 ⟨rfl, hb⟩
  replace HB := hid (Grow.trans HB.out hb)
  clear hb
  go_wp2_with fail
  refine (lamRight 256 _).mono ?_
  rintro e w2 ⟨rfl, hb⟩
  replace HB := hid (Grow.trans HB.out hb)
  clear hb
  go_wp2_with fail
  refine (lamRight 12 _).mono ?_
  rintro e w3 ⟨rfl, hb⟩
  replace HB := hid (Grow.trans HB.out hb)
  clear hb
  go_wp2_with fail
  refine (lamRight 264 _).mono ?_
  rintro e w4 ⟨rfl, hb⟩
  replace HB := hid (Grow.trans HB.out hb)
  clear hb
  go_wp2
  go_ret
  exact ⟨rfl, HB.out⟩
end Go.Proofs.Ytkibibgbmkejjaa
