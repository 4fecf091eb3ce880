/- Joined: QLaw03s QTagL QLam1 QLam2 QLam3 QLam4 QLam5 QLam6 QLam7 QLam8. -/
import Derived.Test.YtabkaflccaklhaaGreatQBase1
import Derived.Test.YtabkaflccaklhaaGreatQKit1
import Derived.Test.YtabkaflccaklhaaGreatQIdx1
set_option linter.unusedSimpArgs false
set_option linter.unusedVariables false
section
namespace Go.Proofs.YtabkaflccaklhaaGreat
open Go.RowKit Go.Qk

set_option maxHeartbeats 400000
set_option maxRecDepth 100000
end Go.Proofs.YtabkaflccaklhaaGreat
end
section
/- The laws TagSums, TagRows: walks. -/
namespace Go.Proofs.YtabkaflccaklhaaGreat
open Go.RowKit
open Go.Qk hiding rotr b4
set_option maxHeartbeats 1000000
set_option maxRecDepth 100000
theorem refPairC (name : ByteArray) (a b : List UInt8) (ha : a.length = 32) (hb : b.length = 32) (w : World) :
    Calls Tryz.prog 115 #[.string (cutName name), idV a, idV b] w fun e w' => e = .returned (idV (pairOf name a b)) ∧ Below w.heap.size w w' := by
  have h := refPair (cutName name) a b ha hb (cutName_size name) w
  have e : pairOf (cutName name) a b = pairOf name a b := by unfold pairOf; rw [cutName_short _ (cutName_size name)]
  rw [e] at h
  exact h
theorem refOfChain (name : ByteArray) (A : Option Addr) (c : Nat) (l : List (List UInt8)) (w : World) (hx : StrRow w A [bs l.flatten]) (hlen : (textOf (cutName name) [bs l.flatten]).length ≤ 140737488355328) :
    Calls Tryz.prog 70 #[.string (cutName name), .slice A 1 c] w fun e w' => e = .returned (idV (chainOf name l)) ∧ Below w.heap.size w w' := refOf (cutName name) A 1 c [bs l.flatten] w hx rfl (cutName_size name) hlen
theorem id_eql_of (F G : List UInt8) (hF : F.length = 32) (hG : G.length = 32) (b : Bool) (h : (F == G) = b) (w : World) : (Go.binOp .eql 42 (idV F) (idV G)).run Tryz.prog w = .ok (.bool b) w := by
  rw [id_eql F G hF hG w, h]
end Go.Proofs.YtabkaflccaklhaaGreat
end
section
/- lamport: secrets, public sums, which bits are right; the references: contracts. -/
namespace Go.Proofs.YtabkaflccaklhaaGreat
open Go.RowKit
open Go.Qk hiding rotr b4
set_option maxHeartbeats 1000000
set_option maxRecDepth 100000
theorem wf_hi {a : Int} (h : (Lit.int .i64 a).wf = true) : a ≤ 9223372036854775807 := by
  simp [Lit.wf, IntKind.min, IntKind.max, IntKind.signed, IntKind.bits] at h
  omega
theorem wf_lo {a : Int} (h : (Lit.int .i64 a).wf = true) : -9223372036854775808 ≤ a := by
  simp [Lit.wf, IntKind.min, IntKind.max, IntKind.signed, IntKind.bits] at h
  omega
theorem lamNumber8 (v : Nat) (hv : (v : Int) ≤ 9223372036854775807) (w : World) :
    Calls Tryz.prog 127 #[.int .i64 v, .int .i64 8] w fun e w' => e = .returned (.string (bs (be 8 v))) ∧ Below w.heap.size w w' := by
  have hw : IntKind.u64.wrap (v : Int) = (v : Int) := by simp [IntKind.wrap, IntKind.signed, IntKind.bits]; omega
  have HV := hid hv
  clear hv
  go_enter Tryz.func127, Tryz.ntmps127
  have HB := hid (grow_refl w)
  go_wp2_with fail
  refine (number8 v (by have := HV.out; omega) _).mono ?_
  rintro e w1 ⟨rfl, hb⟩
  replace HB := hid (Grow.trans HB.out hb)
  clear hb
  go_wp2
  go_ret
  exact ⟨rfl, HB.out⟩
theorem refNum8 (v : Nat) (hv : (v : Int) ≤ 9223372036854775807) (w : World) :
    Calls Tryz.prog 71 #[.int .i64 v, .int .i64 8] w fun e w' => e = .returned (.string (bs (be 8 v))) ∧ Below w.heap.size w w' := by
  have hw : IntKind.u64.wrap (v : Int) = (v : Int) := by simp [IntKind.wrap, IntKind.signed, IntKind.bits]; omega
  have HV := hid hv
  clear hv
  go_enter Tryz.func71, Tryz.ntmps71
  have HB := hid (grow_refl w)
  go_wp2_with fail
  refine (refNumber8 v (by have := HV.out; omega) _).mono ?_
  rintro e w1 ⟨rfl, hb⟩
  replace HB := hid (Grow.trans HB.out hb)
  clear hb
  go_wp2
  go_ret
  exact ⟨rfl, HB.out⟩
theorem lamNumber2 (v : Nat) (hv : (v : Int) ≤ 65535) (w : World) :
    Calls Tryz.prog 127 #[.int .i64 v, .int .i64 2] w fun e w' => e = .returned (.string (bs (be 2 v))) ∧ Below w.heap.size w w' := by
  have hw : IntKind.u64.wrap (v : Int) = (v : Int) := by simp [IntKind.wrap, IntKind.signed, IntKind.bits]; omega
  have HV := hid hv
  clear hv
  go_enter Tryz.func127, Tryz.ntmps127
  have HB := hid (grow_refl w)
  go_wp2_with fail
  refine (number2 v (by have := HV.out; omega) _).mono ?_
  rintro e w1 ⟨rfl, hb⟩
  replace HB := hid (Grow.trans HB.out hb)
  clear hb
  go_wp2
  go_ret
  exact ⟨rfl, HB.out⟩
theorem refNum2 (v : Nat) (hv : (v : Int) ≤ 65535) (w : World) :
    Calls Tryz.prog 71 #[.int .i64 v, .int .i64 2] w fun e w' => e = .returned (.string (bs (be 2 v))) ∧ Below w.heap.size w w' := by
  have hw : IntKind.u64.wrap (v : Int) = (v : Int) := by simp [IntKind.wrap, IntKind.signed, IntKind.bits]; omega
  have HV := hid hv
  clear hv
  go_enter Tryz.func71, Tryz.ntmps71
  have HB := hid (grow_refl w)
  go_wp2_with fail
  refine (refNumber2 v (by have := HV.out; omega) _).mono ?_
  rintro e w1 ⟨rfl, hb⟩
  replace HB := hid (Grow.trans HB.out hb)
  clear hb
  go_wp2
  go_ret
  exact ⟨rfl, HB.out⟩
theorem lamNumber1 (v : Nat) (hv : (v : Int) ≤ 1) (w : World) :
    Calls Tryz.prog 127 #[.int .i64 v, .int .i64 1] w fun e w' => e = .returned (.string (bs (be 1 v))) ∧ Below w.heap.size w w' := by
  have hw : IntKind.u64.wrap (v : Int) = (v : Int) := by simp [IntKind.wrap, IntKind.signed, IntKind.bits]; omega
  have HV := hid hv
  clear hv
  go_enter Tryz.func127, Tryz.ntmps127
  have HB := hid (grow_refl w)
  go_wp2_with fail
  refine (number1 v (by have := HV.out; omega) _).mono ?_
  rintro e w1 ⟨rfl, hb⟩
  replace HB := hid (Grow.trans HB.out hb)
  clear hb
  go_wp2
  go_ret
  exact ⟨rfl, HB.out⟩
theorem refNum1 (v : Nat) (hv : (v : Int) ≤ 1) (w : World) :
    Calls Tryz.prog 71 #[.int .i64 v, .int .i64 1] w fun e w' => e = .returned (.string (bs (be 1 v))) ∧ Below w.heap.size w w' := by
  have hw : IntKind.u64.wrap (v : Int) = (v : Int) := by simp [IntKind.wrap, IntKind.signed, IntKind.bits]; omega
  have HV := hid hv
  clear hv
  go_enter Tryz.func71, Tryz.ntmps71
  have HB := hid (grow_refl w)
  go_wp2_with fail
  refine (refNumber1 v (by have := HV.out; omega) _).mono ?_
  rintro e w1 ⟨rfl, hb⟩
  replace HB := hid (Grow.trans HB.out hb)
  clear hb
  go_wp2
  go_ret
  exact ⟨rfl, HB.out⟩
theorem refClamp (v most : Int) (c : Nat) (h : (c : Int) = if v < 0 then 0 else if most < v then most else v) (w : World) :
    Calls Tryz.prog 72 #[.int .i64 v, .int .i64 most] w fun e w' => e = .returned (.int .i64 c) ∧ Below w.heap.size w w' := by
  by_cases h1 : v < 0
  · rw [if_pos h1] at h
    rw [h]
    go_enter Tryz.func72, Tryz.ntmps72
    have HB := hid (grow_refl w)
    go_wp2
    go_ret
    exact ⟨rfl, HB.out⟩
  · rw [if_neg h1] at h
    by_cases h2 : most < v
    · rw [if_pos h2] at h
      rw [h]
      go_enter Tryz.func72, Tryz.ntmps72
      have HB := hid (grow_refl w)
      go_wp2
      go_ret
      exact ⟨rfl, HB.out⟩
    · rw [if_neg h2] at h
      rw [h]
      go_enter Tryz.func72, Tryz.ntmps72
      have HB := hid (grow_refl w)
      go_wp2
      go_ret
      exact ⟨rfl, HB.out⟩
def clampN (v most : Int) : Nat := (if v < 0 then 0 else if most < v then most else v).toNat
theorem clampN_eq (v most : Int) (h : 0 ≤ most) : ((clampN v most : Nat) : Int) = if v < 0 then 0 else if most < v then most else v := by
  unfold clampN; split <;> (try split) <;> omega
def secretParts (seed : ByteArray) (leaf bit side : Int) : List ByteArray := [seed, bs (be 8 (clampN leaf 9223372036854775807)), bs (be 2 (clampN bit 65535)), bs (be 1 (clampN side 1))]
/-- A secret. -/
def secretOf (seed : ByteArray) (leaf bit side : Int) : List UInt8 := tagSum ⟨#[115, 101, 99, 114, 101, 116]⟩ (secretParts seed leaf bit side)
theorem secretOf_length (seed : ByteArray) (leaf bit side : Int) : (secretOf seed leaf bit side).length = 32 := tagSum_length _ _
theorem secret_small (seed : ByteArray) (leaf bit side : Int) (hs : seed.size ≤ 1000000) : (textOf ⟨#[115, 101, 99, 114, 101, 116]⟩ (secretParts seed leaf bit side)).length ≤ 140737488355328 := by
  have h : (⟨#[115, 101, 99, 114, 101, 116]⟩ : ByteArray).size = 6 := rfl
  simp [textOf, partsOf, secretParts, be_length, bl_length, bs_size, h]
  omega
theorem lamSecret (seed : ByteArray) (leaf bit side : Int) (hs : seed.size ≤ 1000000) (hl : leaf ≤ 9223372036854775807) (w : World) :
    Calls Tryz.prog 83 #[.string seed, .int .i64 leaf, .int .i64 bit, .int .i64 side] w fun e w' => e = .returned (idV (secretOf seed leaf bit side)) ∧ Below w.heap.size w w' := by
  have HS := hid (secret_small seed leaf bit side hs)
  have HTL := hid (secretOf_length seed leaf bit side)
  have e1 : max leaf 0 = ((clampN leaf 9223372036854775807 : Nat) : Int) := by rw [clampN_eq _ _ (by omega)]; split <;> (try split) <;> omega
  have e2 : min (max bit 0) 65535 = ((clampN bit 65535 : Nat) : Int) := by rw [clampN_eq _ _ (by omega)]; split <;> (try split) <;> omega
  have e3 : min (max side 0) 1 = ((clampN side 1 : Nat) : Int) := by rw [clampN_eq _ _ (by omega)]; split <;> (try split) <;> omega
  have q1 := hid (show ((clampN leaf 9223372036854775807 : Nat) : Int) ≤ 9223372036854775807 by rw [← e1]; omega)
  have q2 := hid (show ((clampN bit 65535 : Nat) : Int) ≤ 65535 by rw [← e2]; omega)
  have q3 := hid (show ((clampN side 1 : Nat) : Int) ≤ 1 by rw [← e3]; omega)
  have HP := hid (show secretParts seed leaf bit side = [seed, bs (be 8 (clampN leaf 9223372036854775807)), bs (be 2 (clampN bit 65535)), bs (be 1 (clampN side 1))] from rfl)
  have HF := hid (show secretOf seed leaf bit side = tagSum ⟨#[115, 101, 99, 114, 101, 116]⟩ (secretParts seed leaf bit side) from rfl)
  clear hl
  rw [HP.out] at HS HF
  generalize clampN leaf 9223372036854775807 = L at *
  generalize clampN bit 65535 = B at *
  generalize clampN side 1 = S at *
  generalize secretOf seed leaf bit side = R at *
  clear HP hs
  go_enter Tryz.func83, Tryz.ntmps83
  apply wp_seq_k; intro _ _; apply wp_region_lit
  refine op_alloc rfl rfl ?_
  intro gr W hgl hgu hb hr
  have HR := hid hr; have HB := hid hb; have HRL := hid hgl; have HRU := hid hgu
  clear hr hb hgl hgu
  try simp only [Act.put, List.setIfInBounds_toArray, List.set_cons_zero, List.set_cons_succ]
  try refine wpList_nil ?_
  go_wp2_with fail
  refine (lamNumber8 L q1.out _).mono ?_
  rintro e w1 ⟨rfl, hb⟩
  replace HR := hid (grow_block HR.out hb)
  replace HB := hid (Grow.trans HB.out hb)
  clear hb
  clear e1
  go_wp2_with fail
  refine (lamNumber2 B q2.out _).mono ?_
  rintro e w2 ⟨rfl, hb⟩
  replace HR := hid (grow_block HR.out hb)
  replace HB := hid (Grow.trans HB.out hb)
  clear hb
  clear e2
  go_wp2_with fail
  refine (lamNumber1 S q3.out _).mono ?_
  rintro e w3 ⟨rfl, hb⟩
  replace HR := hid (grow_block HR.out hb)
  replace HB := hid (Grow.trans HB.out hb)
  clear hb
  clear e3
  go_wp2_with fail
  refine (tagOf ⟨#[115, 101, 99, 114, 101, 116]⟩ _ _ _ [seed, bs (be 8 L), bs (be 2 B), bs (be 1 S)] _ (strRow_alloc _ [seed, bs (be 8 L), bs (be 2 B), bs (be 1 S)] _ (by simp)) rfl (by decide) HS.out).mono ?_
  rintro e w4 ⟨rfl, hb⟩
  replace hb := Grow.trans (grow_alloc _ _) hb
  replace HR := hid (grow_block HR.out hb)
  replace HB := hid (Grow.trans HB.out hb)
  clear hb
  rw [← HF.out]
  go_wp2_with (first |  (refine op_allocstore (l := R) rfl rfl rfl rfl rfl rfl (fun _ => rfl) ⟨fun _ => rfl, HTL.out⟩ ?_))
  intro g9 w5 hgl hgu hb hr
  have H9L := hid (Nat.le_trans HB.out.size hgl)
  replace HR := hid (grow_block HR.out hb)
  replace HB := hid (Grow.trans HB.out hb)
  have H9 := hid hr; have H9U := hid hgu
  clear hr hgl hgu hb
  try simp only [Act.put, List.setIfInBounds_toArray, List.set_cons_zero, List.set_cons_succ]
  go_wp2_with (first | (refine op_loadId rfl rfl rfl H9.out (HTL.out) ?_) |  (refine op_buildId rfl rfl ?_) | (refine op_storeId (l := R) rfl rfl rfl rfl rfl HR.out (by rfl) (HTL.out) ?_))
  intro wz hz _ hbz
  have HZ := hid hz; have HBZ := hid (hbz _ _ HB.out HRL.out)
  clear hz hbz
  go_wp2_with fail
  refine bodyPost_ret (ret_id rfl rfl HZ.out (HTL.out)) rfl ⟨?_, HBZ.out⟩
  rfl
theorem refSecret (seed : ByteArray) (leaf bit side : Int) (hs : seed.size ≤ 1000000) (w : World) :
    Calls Tryz.prog 32 #[.string seed, .int .i64 leaf, .int .i64 bit, .int .i64 side] w fun e w' => e = .returned (idV (secretOf seed leaf bit side)) ∧ Below w.heap.size w w' := by
  have HS := hid (secret_small seed leaf bit side hs)
  have HTL := hid (secretOf_length seed leaf bit side)
  have e1 := hid (clampN_eq leaf 9223372036854775807 (by omega))
  have e2 := hid (clampN_eq bit 65535 (by omega))
  have e3 := hid (clampN_eq side 1 (by omega))
  have q1 := hid (show ((clampN leaf 9223372036854775807 : Nat) : Int) ≤ 9223372036854775807 by rw [e1.out]; split <;> (try split) <;> omega)
  have q2 := hid (show ((clampN bit 65535 : Nat) : Int) ≤ 65535 by rw [e2.out]; split <;> (try split) <;> omega)
  have q3 := hid (show ((clampN side 1 : Nat) : Int) ≤ 1 by rw [e3.out]; split <;> (try split) <;> omega)
  have HP := hid (show secretParts seed leaf bit side = [seed, bs (be 8 (clampN leaf 9223372036854775807)), bs (be 2 (clampN bit 65535)), bs (be 1 (clampN side 1))] from rfl)
  have HF := hid (show secretOf seed leaf bit side = tagSum ⟨#[115, 101, 99, 114, 101, 116]⟩ (secretParts seed leaf bit side) from rfl)
  rw [HP.out] at HS HF
  generalize clampN leaf 9223372036854775807 = L at *
  generalize clampN bit 65535 = B at *
  generalize clampN side 1 = S at *
  generalize secretOf seed leaf bit side = R at *
  clear HP hs
  go_enter Tryz.func32, Tryz.ntmps32
  apply wp_seq_k; intro _ _; apply wp_region_lit
  refine op_alloc rfl rfl ?_
  intro gr W hgl hgu hb hr
  have HR := hid hr; have HB := hid hb; have HRL := hid hgl; have HRU := hid hgu
  clear hr hb hgl hgu
  try simp only [Act.put, List.setIfInBounds_toArray, List.set_cons_zero, List.set_cons_succ]
  refine wpList_nil ?_
  go_wp2_with fail
  refine (refClamp leaf 9223372036854775807 L e1.out _).mono ?_
  rintro e w1 ⟨rfl, hb⟩
  replace HR := hid (grow_block HR.out hb)
  replace HB := hid (Grow.trans HB.out hb)
  clear hb
  go_wp2_with fail
  refine (refNum8 L q1.out _).mono ?_
  rintro e w2 ⟨rfl, hb⟩
  replace HR := hid (grow_block HR.out hb)
  replace HB := hid (Grow.trans HB.out hb)
  clear hb
  go_wp2_with fail
  refine (refClamp bit 65535 B e2.out _).mono ?_
  rintro e w3 ⟨rfl, hb⟩
  replace HR := hid (grow_block HR.out hb)
  replace HB := hid (Grow.trans HB.out hb)
  clear hb
  go_wp2_with fail
  refine (refNum2 B q2.out _).mono ?_
  rintro e w4 ⟨rfl, hb⟩
  replace HR := hid (grow_block HR.out hb)
  replace HB := hid (Grow.trans HB.out hb)
  clear hb
  go_wp2_with fail
  refine (refClamp side 1 S e3.out _).mono ?_
  rintro e w5 ⟨rfl, hb⟩
  replace HR := hid (grow_block HR.out hb)
  replace HB := hid (Grow.trans HB.out hb)
  clear hb
  go_wp2_with fail
  refine (refNum1 S q3.out _).mono ?_
  rintro e w6 ⟨rfl, hb⟩
  replace HR := hid (grow_block HR.out hb)
  replace HB := hid (Grow.trans HB.out hb)
  clear hb
  go_wp2_with fail
  refine (refOf ⟨#[115, 101, 99, 114, 101, 116]⟩ _ _ _ [seed, bs (be 8 L), bs (be 2 B), bs (be 1 S)] _ (strRow_alloc _ [seed, bs (be 8 L), bs (be 2 B), bs (be 1 S)] _ (by simp)) rfl (by decide) HS.out).mono ?_
  rintro e w7 ⟨rfl, hb⟩
  replace hb := Grow.trans (grow_alloc _ _) hb
  replace HR := hid (grow_block HR.out hb)
  replace HB := hid (Grow.trans HB.out hb)
  clear hb
  rw [← HF.out]
  go_wp2_with (first |  (refine op_buildId rfl rfl ?_) | (refine op_storeId (l := R) rfl rfl rfl rfl rfl HR.out (by rfl) (HTL.out) ?_))
  intro wz hz _ hbz
  have HZ := hid hz; have HBZ := hid (hbz _ _ HB.out HRL.out)
  clear hz hbz
  go_wp2_with fail
  refine bodyPost_ret (ret_id rfl rfl HZ.out (HTL.out)) rfl ⟨?_, HBZ.out⟩
  rfl
/-- A secret's public sum. -/
def publicOf (a : List UInt8) : List UInt8 := tagSum ⟨#[112, 117, 98, 108, 105, 99]⟩ [bs a]
theorem publicOf_length (a : List UInt8) : (publicOf a).length = 32 := tagSum_length _ _
theorem lamPublic (a : List UInt8) (ha : a.length = 32) (w : World) :
    Calls Tryz.prog 82 #[idV a] w fun e w' => e = .returned (idV (publicOf a)) ∧ Below w.heap.size w w' := by
  have HA := hid ha
  have HTL := hid (publicOf_length a)
  have HS := hid (textOf_one ⟨#[112, 117, 98, 108, 105, 99]⟩ a (by decide) (by omega))
  clear ha
  go_enter Tryz.func82, Tryz.ntmps82
  have HB := hid (grow_refl w)
  apply wp_seq_k; intro _ _; apply wp_region_lit
  refine op_box (l := a) rfl rfl rfl ?_
  intro gx w1 hgl hgu hb hr
  have XL := hid (Nat.le_trans HB.out.size hgl)
  replace HB := hid (Grow.trans HB.out hb)
  have X := hid hr; have XU := hid hgu
  clear hr hgl hgu hb
  try simp only [Act.put, List.setIfInBounds_toArray, List.set_cons_zero, List.set_cons_succ]
  refine op_alloc rfl rfl ?_
  intro gr w2 hgl hgu hb hr
  have HRL := hid (Nat.le_trans HB.out.size hgl)
  replace HB := hid (Grow.trans HB.out hb)
  replace X := hid (grow_block X.out hb)
  have HR := hid hr; have HRU := hid hgu
  clear hr hgl hgu hb
  try simp only [Act.put, List.setIfInBounds_toArray, List.set_cons_zero, List.set_cons_succ]
  refine wpList_nil ?_
  have hcx := run_strId X.out HA.out
  go_wp2_with fail
  refine (tagOf ⟨#[112, 117, 98, 108, 105, 99]⟩ _ _ _ [bs a] _ (strRow_alloc _ [bs a] _ (by simp)) rfl (by decide) HS.out).mono ?_
  rintro e w3 ⟨rfl, hb⟩
  replace hb := Grow.trans (grow_alloc _ _) hb
  replace HB := hid (Grow.trans HB.out hb)
  replace X := hid (grow_block X.out hb)
  replace HR := hid (grow_block HR.out hb)
  clear hb
  clear hcx
  go_wp2_with (first |  (refine op_allocstore (l := publicOf a) rfl rfl rfl rfl rfl rfl (fun _ => rfl) ⟨fun _ => rfl, HTL.out⟩ ?_))
  intro g9 w4 hgl hgu hb hr
  have H9L := hid (Nat.le_trans HB.out.size hgl)
  replace HB := hid (Grow.trans HB.out hb)
  replace X := hid (grow_block X.out hb)
  replace HR := hid (grow_block HR.out hb)
  have H9 := hid hr; have H9U := hid hgu
  clear hr hgl hgu hb
  try simp only [Act.put, List.setIfInBounds_toArray, List.set_cons_zero, List.set_cons_succ]
  go_wp2_with (first | (refine op_loadId rfl rfl rfl H9.out (HTL.out) ?_) |  (refine op_buildId rfl rfl ?_) | (refine op_storeId (l := publicOf a) rfl rfl rfl rfl rfl HR.out (by rfl) (HTL.out) ?_))
  intro wz hz _ hbz
  have HZ := hid hz; have HBZ := hid (hbz _ _ HB.out HRL.out)
  clear hz hbz
  go_wp2_with fail
  refine bodyPost_ret (ret_id rfl rfl HZ.out (HTL.out)) rfl ⟨?_, HBZ.out⟩
  rfl
theorem refPublic (a : List UInt8) (ha : a.length = 32) (w : World) :
    Calls Tryz.prog 79 #[idV a] w fun e w' => e = .returned (idV (publicOf a)) ∧ Below w.heap.size w w' := by
  have HA := hid ha
  have HTL := hid (publicOf_length a)
  have HS := hid (textOf_one ⟨#[112, 117, 98, 108, 105, 99]⟩ a (by decide) (by omega))
  clear ha
  go_enter Tryz.func79, Tryz.ntmps79
  have HB := hid (grow_refl w)
  apply wp_seq_k; intro _ _; apply wp_region_lit
  refine op_box (l := a) rfl rfl rfl ?_
  intro gx w1 hgl hgu hb hr
  have XL := hid (Nat.le_trans HB.out.size hgl)
  replace HB := hid (Grow.trans HB.out hb)
  have X := hid hr; have XU := hid hgu
  clear hr hgl hgu hb
  try simp only [Act.put, List.setIfInBounds_toArray, List.set_cons_zero, List.set_cons_succ]
  refine op_alloc rfl rfl ?_
  intro gr w2 hgl hgu hb hr
  have HRL := hid (Nat.le_trans HB.out.size hgl)
  replace HB := hid (Grow.trans HB.out hb)
  replace X := hid (grow_block X.out hb)
  have HR := hid hr; have HRU := hid hgu
  clear hr hgl hgu hb
  try simp only [Act.put, List.setIfInBounds_toArray, List.set_cons_zero, List.set_cons_succ]
  refine wpList_nil ?_
  go_wp2_with (first | (refine op_loadId rfl rfl rfl X.out (HA.out) ?_) |  fail)
  refine (ref3Bytes a HA.out _).mono ?_
  rintro e w3 ⟨rfl, hb⟩
  replace HB := hid (Grow.trans HB.out hb)
  replace X := hid (grow_block X.out hb)
  replace HR := hid (grow_block HR.out hb)
  clear hb
  go_wp2_with fail
  refine (refOf ⟨#[112, 117, 98, 108, 105, 99]⟩ _ _ _ [bs a] _ (strRow_alloc _ [bs a] _ (by simp)) rfl (by decide) HS.out).mono ?_
  rintro e w4 ⟨rfl, hb⟩
  replace hb := Grow.trans (grow_alloc _ _) hb
  replace HB := hid (Grow.trans HB.out hb)
  replace X := hid (grow_block X.out hb)
  replace HR := hid (grow_block HR.out hb)
  clear hb
  go_wp2_with (first | (refine op_loadId rfl rfl rfl X.out (HA.out) ?_) |  (refine op_buildId rfl rfl ?_) | (refine op_storeId (l := publicOf a) rfl rfl rfl rfl rfl HR.out (by rfl) (HTL.out) ?_))
  intro wz hz _ hbz
  have HZ := hid hz; have HBZ := hid (hbz _ _ HB.out HRL.out)
  clear hz hbz
  go_wp2_with fail
  refine bodyPost_ret (ret_id rfl rfl HZ.out (HTL.out)) rfl ⟨?_, HBZ.out⟩
  rfl
/-- May there be so many bits? -/
def rightB (bits : Int) : Bool := decide (8 ≤ bits) && decide (bits ≤ 256) && decide (bits % 8 = 0)
theorem lamRight (bits : Int) (w : World) : Calls Tryz.prog 123 #[.int .i64 bits] w fun e w' => e = .returned (.bool (rightB bits)) ∧ Below w.heap.size w w' := by
  by_cases h1 : 8 ≤ bits
  · by_cases h2 : bits ≤ 256
    · by_cases h3 : bits % 8 = 0
      · have HR := hid (show rightB bits = true by simp [rightB, h1, h2, h3])
        rw [HR.out]
        have t3 : ((bits % 8) == 0) = true := by simp; omega
        go_enter Tryz.func123, Tryz.ntmps123
        have HB := hid (grow_refl w)
        go_wp2
        go_ret
        exact ⟨rfl, HB.out⟩
      · have HR := hid (show rightB bits = false by simp [rightB, h3])
        rw [HR.out]
        have t3 : ((bits % 8) == 0) = false := by simp; omega
        go_enter Tryz.func123, Tryz.ntmps123
        have HB := hid (grow_refl w)
        go_wp2
        go_ret
        exact ⟨rfl, HB.out⟩
    · have HR := hid (show rightB bits = false by simp [rightB, h2])
      rw [HR.out]
      have t2 : decide (bits ≤ 256) = false := by simp; omega
      go_enter Tryz.func123, Tryz.ntmps123
      have HB := hid (grow_refl w)
      go_wp2
      go_ret
      exact ⟨rfl, HB.out⟩
  · have HR := hid (show rightB bits = false by simp [rightB, h1])
    rw [HR.out]
    have t2 : decide (8 ≤ bits) = false := by simp; omega
    go_enter Tryz.func123, Tryz.ntmps123
    have HB := hid (grow_refl w)
    go_wp2
    go_ret
    exact ⟨rfl, HB.out⟩
theorem refRight (bits : Int) (w : World) : Calls Tryz.prog 114 #[.int .i64 bits] w fun e w' => e = .returned (.bool (rightB bits)) ∧ Below w.heap.size w w' := by
  go_enter Tryz.func114, Tryz.ntmps114
  have HB := hid (grow_refl w)
  go_wp2_with fail
  go_loopg [3] 34 (fun q i wr => ∃ k : Nat, 1 ≤ k ∧ k ≤ 33 ∧ q = 35 - k ∧ i = .int .i64 (8 * (k : Int)) ∧ Hid (∀ j : Nat, 1 ≤ j → j < k → bits ≠ 8 * (j : Int)) ∧ Hid (Grow w wr))
  case atStart => exact ⟨1, by omega, by omega, by omega, rfl, hid (show ∀ j : Nat, 1 ≤ j → j < 1 → bits ≠ 8 * (j : Int) from fun j h1 h2 => by omega), HB⟩
  case round =>
    clear HB
    obtain ⟨k, hk1, hk, hq, rfl, hA, HB⟩ := hrel
    by_cases hlt : k < 33
    · have t1 : decide (8 * (k : Int) ≤ 256) = true := by simp; omega
      by_cases he : 8 * (k : Int) = bits
      · have t2 : (8 * (k : Int) == bits) = true := by simpa using he
        have HR := hid (show rightB bits = true by unfold rightB; rw [decide_eq_true (by omega), decide_eq_true (by omega), decide_eq_true (by omega)]; rfl)
        clear he
        go_wp2
        go_ret
        exact ⟨ret_bool HR.out.symm, HB.out⟩
      · have t2 : (8 * (k : Int) == bits) = false := by simpa using he
        have HA2 := hid (show ∀ j : Nat, 1 ≤ j → j < k + 1 → bits ≠ 8 * (j : Int) from fun j h1 h2 => by
          by_cases h3 : j < k
          · exact hA.out j h1 h3
          · obtain rfl : j = k := by omega
            omega)
        clear he
        go_wp2
        go_roundg (35 - (k + 1))
        case rel => exact ⟨k + 1, by omega, by omega, rfl, by go_num, HA2, HB⟩
        case measure => omega
    · obtain rfl : k = 33 := by omega
      have HR := hid (show rightB bits = false by
        cases h : rightB bits with
        | false => rfl
        | true =>
          simp [rightB] at h
          exact absurd (show bits = 8 * (((bits / 8).toNat : Nat) : Int) by omega) (hA.out (bits / 8).toNat (by omega) (by omega)))
      go_wp2
      go_ret
      exact ⟨ret_bool HR.out.symm, HB.out⟩
end Go.Proofs.YtabkaflccaklhaaGreat
end
section
/- The law LamportSecrets: walk. -/
namespace Go.Proofs.YtabkaflccaklhaaGreat
open Go.RowKit
open Go.Qk hiding rotr b4
set_option maxHeartbeats 1000000
set_option maxRecDepth 100000
end Go.Proofs.YtabkaflccaklhaaGreat
end
section
/- lamport: a leaf's sum, its reference: contracts. -/
namespace Go.Proofs.YtabkaflccaklhaaGreat
open Go.RowKit
open Go.Qk hiding rotr b4
set_option maxHeartbeats 1000000
set_option maxRecDepth 100000
theorem two32 {a b : List UInt8} (ha : a.length = 32) (hb : b.length = 32) : ∀ s ∈ [a, b], s.length = 32 := by
  intro s hs
  simp at hs
  rcases hs with rfl | rfl
  · exact ha
  · exact hb
theorem one32 {a : List UInt8} (ha : a.length = 32) : ∀ s ∈ [a], s.length = 32 := by
  intro s hs
  simp at hs
  rw [hs, ha]
def RetIds (B : Nat) (w : World) (xs : List (List UInt8)) (e : Ending) (w' : World) : Prop := ∃ v, e = .returned v ∧ OwnIds 42 B w' v xs ∧ Below w.heap.size w w'
def bothRow (g : Nat → Nat → List UInt8) (n : Nat) : List (List UInt8) := (List.range n).flatMap fun b => [g b 0, g b 1]
theorem bothRow_succ (g : Nat → Nat → List UInt8) (n : Nat) : bothRow g (n + 1) = bothRow g n ++ [g n 0, g n 1] := by simp [bothRow, List.range_succ]
theorem bothRow_length (g : Nat → Nat → List UInt8) (n : Nat) : (bothRow g n).length = 2 * n := by
  induction n with
  | zero => rfl
  | succ n ih => rw [bothRow_succ, List.length_append, ih]; simp; omega
theorem bothRow_32 (g : Nat → Nat → List UInt8) (hg : ∀ b s, (g b s).length = 32) (n : Nat) : ∀ s ∈ bothRow g n, s.length = 32 := by
  intro s hs
  obtain ⟨b, _, hb⟩ := List.mem_flatMap.1 hs
  simp at hb
  rcases hb with rfl | rfl <;> exact hg _ _
theorem lamBoth (n : Nat) (hn : n ≤ 1000) (f : FuncId) (cap : Array Value) (g : Nat → Nat → List UInt8) (hg : ∀ b s, (g b s).length = 32) (w : World) (hent : ∀ args w, (callFunc f args).run Tryz.prog w = .ok (.enter f args) w)
    (hf0 : ∀ (b : Nat) w', b < n → Grow w w' → Calls Tryz.prog f (#[.int .i64 (b : Int), .int .i64 0] ++ cap) w' fun e w'' => e = .returned (idV (g b 0)) ∧ Below w'.heap.size w' w'')
    (hf1 : ∀ (b : Nat) w', b < n → Grow w w' → Calls Tryz.prog f (#[.int .i64 (b : Int), .int .i64 1] ++ cap) w' fun e w'' => e = .returned (idV (g b 1)) ∧ Below w'.heap.size w' w'') :
    Calls Tryz.prog 141 #[.int .i64 n, .func (.func f) #[] cap] w (RetIds w.heap.size w (bothRow g n)) := by
  have HE := hid hent
  have HF0 := hid hf0
  have HF1 := hid hf1
  have H32 := hid hg
  clear hent hf0 hf1 hg
  go_enter Tryz.func141, Tryz.ntmps141
  have HB := hid (grow_refl w)
  go_wp2_with (refine op_makeIds (c := 2 * n) rfl rfl (by simp [Act.eval]) (by omega) ?_)
  intro v0 W0 hown hg0
  have HO := hid hown
  have HG := hid hg0
  clear hown hg0
  go_wp2_with fail
  go_loopg [5, 11] (n + 1) (fun q v i wr => ∃ k : Nat, k ≤ n ∧ q = n + 1 - k ∧ i = .int .i64 k ∧ Hid (OwnIds 42 w.heap.size wr v (bothRow g k)) ∧ Hid (Grow w wr))
  case atStart => exact ⟨0, by omega, rfl, rfl, HO, HG⟩
  case round =>
    clear HO HG HB
    obtain ⟨k, hk, hq, rfl, HO, HG⟩ := hrel
    by_cases hlt : k < n
    · have k1 : (k : Int) < (n : Int) := by omega
      go_wp2_with (refine op_callFn (f := f) (cap := cap) (u1 := .int .i64 (k : Int)) (u2 := .int .i64 0) (v := idV (g k 0)) rfl rfl rfl rfl rfl HE.out (HF0.out k _ hlt HG.out) ?_)
      intro w1 hb
      have HO1 := hid (HO.out.grow hb)
      have HG1 := hid (Grow.trans HG.out hb)
      clear hb HO HG
      go_wp2_with (refine op_callFn (f := f) (cap := cap) (u1 := .int .i64 (k : Int)) (u2 := .int .i64 1) (v := idV (g k 1)) rfl rfl rfl rfl rfl HE.out (HF1.out k _ hlt HG1.out) ?_)
      intro w2 hb
      have HO2 := hid (HO1.out.grow hb)
      have HG2 := hid (Grow.trans HG1.out hb)
      clear hb HO1 HG1
      go_wp2_with (refine op_appIds2 (w0 := w) (l1 := g k 0) (l2 := g k 1) rfl rfl rfl rfl rfl rfl rfl (fun _ => rfl) (fun _ => rfl) (H32.out _ _) (H32.out _ _) HO2.out HG2.out HG2.out.size (by rw [bothRow_length]; omega) ?_)
      intro u v' w3 hown hb3 hs3
      rw [← bothRow_succ] at hown
      have HO3 := hid hown
      have HG3 := hid hb3
      clear hown hb3 hs3
      go_wp2
      go_roundg (n + 1 - (k + 1))
      case rel => exact ⟨k + 1, by omega, rfl, by go_num, HO3, HG3⟩
      case measure => omega
    · obtain rfl : k = n := by omega
      go_wp2_with fail
      go_ret
      exact ⟨_, rfl, HO.out, HG.out⟩
def leafPub (seed : ByteArray) (leaf : Int) (b s : Nat) : List UInt8 := publicOf (secretOf seed leaf b s)
theorem leafPub_length (seed : ByteArray) (leaf : Int) (b s : Nat) : (leafPub seed leaf b s).length = 32 := publicOf_length _
/-- A leaf's sum. -/
def leafOf (seed : ByteArray) (leaf : Int) (n : Nat) : List UInt8 := chainOf ⟨#[108, 101, 97, 102]⟩ (bothRow (leafPub seed leaf) n)
theorem leafOf_length (seed : ByteArray) (leaf : Int) (n : Nat) : (leafOf seed leaf n).length = 32 := chainOf_length _ _
theorem chain_leaf (l : List (List UInt8)) : chainOf ⟨#[108, 101, 97, 102]⟩ l = tagSum ⟨#[108, 101, 97, 102]⟩ [bs l.flatten] := by unfold chainOf; rw [cutName_short _ (by decide)]
theorem ent_leaf1 : ∀ args w, (callFunc 156 args).run Tryz.prog w = .ok (.enter 156 args) w := fun _ _ => by kernel_rfl
theorem lamLeaf1 (seed : ByteArray) (leaf : Int) (hs : seed.size ≤ 1000000) (hl : leaf ≤ 9223372036854775807) (b s : Nat) (g3 g4 : Nat) (t3 t4 : TypeId) (w : World) (h3 : w.heap[g3]? = some (.cells #[.string seed] t3 (0, 0))) (h4 : w.heap[g4]? = some (.cells #[.int .i64 leaf] t4 (0, 0))) :
    Calls Tryz.prog 156 #[.int .i64 (b : Int), .int .i64 (s : Int), .pointer (some ⟨g3, 0, none⟩), .pointer (some ⟨g4, 0, none⟩)] w fun e w' => e = .returned (idV (leafPub seed leaf b s)) ∧ Below w.heap.size w w' := by
  have H3 := hid h3
  have H4 := hid h4
  have HL := hid hl
  have HTL := hid (leafPub_length seed leaf b s)
  clear h3 h4 hl
  go_enter Tryz.func156, Tryz.ntmps156
  apply wp_seq_k; intro _ _; apply wp_region_lit
  refine op_alloc rfl rfl ?_
  intro gr W hgl hgu hb hr
  have HR := hid hr; have HB := hid hb; have HRL := hid hgl; have HRU := hid hgu
  clear hr hb hgl hgu
  try simp only [Act.put, List.setIfInBounds_toArray, List.set_cons_zero, List.set_cons_succ]
  refine wpList_nil ?_
  have c3 := cell_box H3.out HB.out
  have c4 := cell_box H4.out HB.out
  go_wp2_with fail
  refine (lamSecret seed leaf b s hs HL.out _).mono ?_
  rintro e w1 ⟨rfl, hb⟩
  replace HR := hid (grow_block HR.out hb)
  replace HB := hid (Grow.trans HB.out hb)
  clear hb
  clear c3 c4
  go_wp2_with fail
  refine (lamPublic (secretOf seed leaf b s) (secretOf_length _ _ _ _) _).mono ?_
  rintro e w2 ⟨rfl, hb⟩
  replace HR := hid (grow_block HR.out hb)
  replace HB := hid (Grow.trans HB.out hb)
  clear hb
  go_wp2_with (first |  (refine op_buildId rfl rfl ?_) | (refine op_storeId (l := leafPub seed leaf b s) rfl rfl rfl rfl rfl HR.out (by rfl) (HTL.out) ?_))
  intro wz hz _ hbz
  have HZ := hid hz; have HBZ := hid (hbz _ _ HB.out HRL.out)
  clear hz hbz
  go_wp2_with fail
  refine bodyPost_ret (ret_id rfl rfl HZ.out (HTL.out)) rfl ⟨?_, HBZ.out⟩
  rfl
def leafRes (seed : ByteArray) (leaf bits : Int) : List UInt8 := if rightB bits && decide (0 ≤ leaf) then leafOf seed leaf bits.toNat else zero8 32
def leafErr (leaf bits : Int) : Int := if rightB bits && decide (0 ≤ leaf) then 0 else 1
theorem leafRes_length (seed : ByteArray) (leaf bits : Int) : (leafRes seed leaf bits).length = 32 := by unfold leafRes; split; exact leafOf_length _ _ _; rfl
theorem lamLeaf (seed : ByteArray) (leaf bits : Int) (hs : seed.size ≤ 1000000) (hl : leaf ≤ 9223372036854775807) (w : World) :
    Calls Tryz.prog 137 #[.string seed, .int .i64 leaf, .int .i64 bits] w fun e w' => e = .returned (.tuple #[idV (leafRes seed leaf bits), .int .i64 (leafErr leaf bits)]) ∧ Below w.heap.size w w' := by
  have HL := hid hl
  clear hl
  by_cases hr : rightB bits = true ∧ 0 ≤ leaf
  · obtain ⟨hr, h0⟩ := hr
    have HR1 := hid (show leafRes seed leaf bits = leafOf seed leaf bits.toNat by simp [leafRes, hr, h0])
    have HR2 := hid (show leafErr leaf bits = 0 by simp [leafErr, hr, h0])
    have hb8 : 8 ≤ bits ∧ bits ≤ 256 := by simp [rightB] at hr; omega
    obtain ⟨n, rfl⟩ : ∃ n : Nat, bits = n := ⟨bits.toNat, by omega⟩
    have hn : n ≤ 256 := by omega
    have HRR := hid hr
    have HTL := hid (leafOf_length seed leaf n)
    have t1 : decide (leaf < 0) = false := by simp; omega
    clear hr hb8
    go_enter Tryz.func137, Tryz.ntmps137
    have HB := hid (grow_refl w)
    apply wp_seq_k; intro _ _; apply wp_region_lit
    refine op_box1 (v := .string seed) rfl rfl rfl rfl ?_
    intro g3 W3 _ _ hb h3
    have H3 := hid h3
    replace HB := hid (Grow.trans HB.out hb)
    clear hb h3
    simp only [Act.put, List.setIfInBounds_toArray, List.set_cons_zero, List.set_cons_succ]
    refine op_box1 (v := .int .i64 leaf) rfl rfl rfl rfl ?_
    intro g4 W4 _ _ hb h4
    have H4 := hid h4
    replace HB := hid (Grow.trans HB.out hb)
    replace H3 := hid (grow_block H3.out hb)
    clear hb
    clear h4
    simp only [Act.put, List.setIfInBounds_toArray, List.set_cons_zero, List.set_cons_succ]
    refine op_alloc rfl rfl ?_
    intro gr w1 hgl hgu hb hr
    have HRL := hid (Nat.le_trans HB.out.size hgl)
    replace HB := hid (Grow.trans HB.out hb)
    replace H3 := hid (grow_block H3.out hb)
    replace H4 := hid (grow_block H4.out hb)
    have HR := hid hr; have HRU := hid hgu
    clear hr hgl hgu hb
    try simp only [Act.put, List.setIfInBounds_toArray, List.set_cons_zero, List.set_cons_succ]
    have c4 := cell_box H4.out (grow_refl _)
    go_wp2_with fail
    have c4' := fun w' (h : Grow w1 w') => cell_box H4.out h
    refine (lamRight n _).mono ?_
    rintro e w2 ⟨rfl, hb⟩
    replace HB := hid (Grow.trans HB.out hb)
    replace H3 := hid (grow_block H3.out hb)
    replace H4 := hid (grow_block H4.out hb)
    replace HR := hid (grow_block HR.out hb)
    clear hb
    rw [HRR.out]
    have c5 := cell_box H4.out (grow_refl _)
    clear c4 c4'
    go_wp2_with fail
    have HF0 := hid (show ∀ (b : Nat) w', b < n → Grow _ w' → Calls Tryz.prog 156 (#[.int .i64 (b : Int), .int .i64 0] ++ #[.pointer (some ⟨g3, 0, none⟩), .pointer (some ⟨g4, 0, none⟩)]) w' fun e w'' => e = .returned (idV (leafPub seed leaf b 0)) ∧ Below w'.heap.size w' w'' from fun b w' _ hg => by
      rw [show (#[.int .i64 (b : Int), .int .i64 0] ++ #[.pointer (some ⟨g3, 0, none⟩), .pointer (some ⟨g4, 0, none⟩)] : Array Value) = #[.int .i64 (b : Int), .int .i64 ((0 : Nat) : Int), .pointer (some ⟨g3, 0, none⟩), .pointer (some ⟨g4, 0, none⟩)] by simp]
      exact lamLeaf1 seed leaf hs HL.out b 0 g3 g4 _ _ w' (grow_block H3.out hg) (grow_block H4.out hg))
    have HF1 := hid (show ∀ (b : Nat) w', b < n → Grow _ w' → Calls Tryz.prog 156 (#[.int .i64 (b : Int), .int .i64 1] ++ #[.pointer (some ⟨g3, 0, none⟩), .pointer (some ⟨g4, 0, none⟩)]) w' fun e w'' => e = .returned (idV (leafPub seed leaf b 1)) ∧ Below w'.heap.size w' w'' from fun b w' _ hg => by
      rw [show (#[.int .i64 (b : Int), .int .i64 1] ++ #[.pointer (some ⟨g3, 0, none⟩), .pointer (some ⟨g4, 0, none⟩)] : Array Value) = #[.int .i64 (b : Int), .int .i64 ((1 : Nat) : Int), .pointer (some ⟨g3, 0, none⟩), .pointer (some ⟨g4, 0, none⟩)] by simp]
      exact lamLeaf1 seed leaf hs HL.out b 1 g3 g4 _ _ w' (grow_block H3.out hg) (grow_block H4.out hg))
    refine (lamBoth n (by omega) _ _ (leafPub seed leaf) (leafPub_length seed leaf) _ ent_leaf1 HF0.out HF1.out).mono ?_
    rintro e w5 ⟨v, rfl, ho, hb⟩
    replace HB := hid (Grow.trans HB.out hb)
    replace H3 := hid (grow_block H3.out hb)
    replace H4 := hid (grow_block H4.out hb)
    replace HR := hid (grow_block HR.out hb)
    clear hb
    obtain ⟨⟨A5, c5', rfl, hrow⟩, _⟩ := ho.sl
    have HO := hid hrow
    clear ho hrow c5
    go_wp2_with fail
    refine (tagChain ⟨#[108, 101, 97, 102]⟩ (by decide) A5 _ _ (bothRow (leafPub seed leaf) n) _ HO.out rfl (bothRow_32 _ (leafPub_length seed leaf) n) (by rw [bothRow_length]; omega)).mono ?_
    rintro e w3 ⟨rfl, hb⟩
    replace HB := hid (Grow.trans HB.out hb)
    replace H3 := hid (grow_block H3.out hb)
    replace H4 := hid (grow_block H4.out hb)
    replace HR := hid (grow_block HR.out hb)
    replace HO := hid (HO.out.grow hb)
    clear hb
    go_wp2_with (first |  (refine op_buildId rfl rfl ?_) | (refine op_storeId (l := leafOf seed leaf n) rfl rfl rfl rfl rfl HR.out (by rfl) (HTL.out) ?_))
    intro wz hz _ hbz
    have HZ := hid hz; have HBZ := hid (hbz _ _ HB.out HRL.out)
    clear hz hbz
    go_wp2_with fail
    refine bodyPost_ret (ret_idt rfl rfl HZ.out (HTL.out)) rfl ⟨?_, HBZ.out⟩
    rw [HR1.out, HR2.out]
    rfl
  · have HR1 := hid (show leafRes seed leaf bits = zero8 32 by unfold leafRes; rw [if_neg]; simpa using hr)
    have HR2 := hid (show leafErr leaf bits = 1 by unfold leafErr; rw [if_neg]; simpa using hr)
    by_cases hr1 : rightB bits = true
    · have h0 : leaf < 0 := by
        by_cases h0 : leaf < 0
        · exact h0
        · exact absurd ⟨hr1, by omega⟩ hr
      have HRR := hid hr1
      clear hr1 hr
      go_enter Tryz.func137, Tryz.ntmps137
      have HB := hid (grow_refl w)
      apply wp_seq_k; intro _ _; apply wp_region_lit
      refine op_box1 (v := .string seed) rfl rfl rfl rfl ?_
      intro g3 W3 _ _ hb h3
      replace HB := hid (Grow.trans HB.out hb)
      clear hb h3
      simp only [Act.put, List.setIfInBounds_toArray, List.set_cons_zero, List.set_cons_succ]
      refine op_box1 (v := .int .i64 leaf) rfl rfl rfl rfl ?_
      intro g4 W4 _ _ hb h4
      have H4 := hid h4
      replace HB := hid (Grow.trans HB.out hb)
      clear hb
      clear h4
      simp only [Act.put, List.setIfInBounds_toArray, List.set_cons_zero, List.set_cons_succ]
      refine op_alloc rfl rfl ?_
      intro gr w4 hgl hgu hb hr
      have HRL := hid (Nat.le_trans HB.out.size hgl)
      replace HB := hid (Grow.trans HB.out hb)
      replace H4 := hid (grow_block H4.out hb)
      have HR := hid hr; have HRU := hid hgu
      clear hr hgl hgu hb
      try simp only [Act.put, List.setIfInBounds_toArray, List.set_cons_zero, List.set_cons_succ]
      go_wp2_with fail
      refine (lamRight bits _).mono ?_
      rintro e w5 ⟨rfl, hb⟩
      replace HB := hid (Grow.trans HB.out hb)
      replace H4 := hid (grow_block H4.out hb)
      replace HR := hid (grow_block HR.out hb)
      clear hb
      rw [HRR.out]
      have c5 := cell_box H4.out (grow_refl _)
      go_wp2_with (first |  (refine op_buildId rfl rfl ?_) | (refine op_storeId (l := zero8 32) rfl rfl rfl rfl rfl HR.out (by rfl) (rfl) ?_))
      intro wz hz _ hbz
      have HZ := hid hz; have HBZ := hid (hbz _ _ HB.out HRL.out)
      clear hz hbz
      go_wp2_with fail
      refine bodyPost_ret (ret_idt rfl rfl HZ.out (rfl)) rfl ⟨?_, HBZ.out⟩
      rw [HR1.out, HR2.out]
      rfl
    · have HRR := hid (show rightB bits = false by simpa using hr1)
      clear hr1 hr
      go_enter Tryz.func137, Tryz.ntmps137
      have HB := hid (grow_refl w)
      apply wp_seq_k; intro _ _; apply wp_region_lit
      refine op_box1 (v := .string seed) rfl rfl rfl rfl ?_
      intro g3 W3 _ _ hb h3
      replace HB := hid (Grow.trans HB.out hb)
      clear hb h3
      simp only [Act.put, List.setIfInBounds_toArray, List.set_cons_zero, List.set_cons_succ]
      refine op_box1 (v := .int .i64 leaf) rfl rfl rfl rfl ?_
      intro g4 W4 _ _ hb h4
      replace HB := hid (Grow.trans HB.out hb)
      clear hb
      clear h4
      simp only [Act.put, List.setIfInBounds_toArray, List.set_cons_zero, List.set_cons_succ]
      refine op_alloc rfl rfl ?_
      intro gr w6 hgl hgu hb hr
      have HRL := hid (Nat.le_trans HB.out.size hgl)
      replace HB := hid (Grow.trans HB.out hb)
      have HR := hid hr; have HRU := hid hgu
      clear hr hgl hgu hb
      try simp only [Act.put, List.setIfInBounds_toArray, List.set_cons_zero, List.set_cons_succ]
      go_wp2_with fail
      refine (lamRight bits _).mono ?_
      rintro e w7 ⟨rfl, hb⟩
      replace HB := hid (Grow.trans HB.out hb)
      replace HR := hid (grow_block HR.out hb)
      clear hb
      rw [HRR.out]
      go_wp2_with (first |  (refine op_buildId rfl rfl ?_) | (refine op_storeId (l := zero8 32) rfl rfl rfl rfl rfl HR.out (by rfl) (rfl) ?_))
      intro wz hz _ hbz
      have HZ := hid hz; have HBZ := hid (hbz _ _ HB.out HRL.out)
      clear hz hbz
      go_wp2_with fail
      refine bodyPost_ret (ret_idt rfl rfl HZ.out (rfl)) rfl ⟨?_, HBZ.out⟩
      rw [HR1.out, HR2.out]
      rfl
end Go.Proofs.YtabkaflccaklhaaGreat
end
section
/- lamport's reference of a leaf; two rows of ids held against each other: contracts. -/
namespace Go.Proofs.YtabkaflccaklhaaGreat
open Go.RowKit
open Go.Qk hiding rotr b4
set_option maxHeartbeats 1000000
set_option maxRecDepth 100000
theorem flatten_len (l : List (List UInt8)) (h : ∀ s ∈ l, s.length = 32) : l.flatten.length = 32 * l.length := by
  have := flatten_take_len l h l.length (Nat.le_refl _)
  rwa [List.take_length] at this
theorem refLeaf (seed : ByteArray) (leaf : Int) (n : Nat) (hs : seed.size ≤ 1000000) (hn : n ≤ 1000) (w : World) :
    Calls Tryz.prog 118 #[.string seed, .int .i64 leaf, .int .i64 n] w fun e w' => e = .returned (idV (leafOf seed leaf n)) ∧ Below w.heap.size w w' := by
  have HTL := hid (leafOf_length seed leaf n)
  have HF := hid (chain_leaf (bothRow (leafPub seed leaf) n))
  have HTX := hid (textOf_one ⟨#[108, 101, 97, 102]⟩ (bothRow (leafPub seed leaf) n).flatten (by decide) (by rw [flatten_len _ (bothRow_32 _ (leafPub_length seed leaf) n), bothRow_length]; omega))
  go_enter Tryz.func118, Tryz.ntmps118
  apply wp_seq_k; intro _ _; apply wp_region_lit
  refine op_alloc rfl rfl ?_
  intro gr W hgl hgu hb hr
  have HR := hid hr; have HB := hid hb; have HRL := hid hgl; have HRU := hid hgu
  clear hr hb hgl hgu
  try simp only [Act.put, List.setIfInBounds_toArray, List.set_cons_zero, List.set_cons_succ]
  refine wpList_nil ?_
  go_wp2_with fail
  go_loopg [7, 8] (n + 1) (fun q v i wr => ∃ k : Nat, k ≤ n ∧ q = n + 1 - k ∧ i = .int .i64 k ∧ v = .string (bs (bothRow (leafPub seed leaf) k).flatten) ∧ Hid (Grow W wr))
  case atStart => exact ⟨0, by omega, rfl, rfl, rfl, hid (grow_refl _)⟩
  case round =>
    obtain ⟨k, hk, hq, rfl, rfl, HG⟩ := hrel
    by_cases hlt : k < n
    · have k1 : (k : Int) < (n : Int) := by omega
      have hs1 : (bs (bothRow (leafPub seed leaf) k).flatten).size = 64 * k := by rw [bs_size, flatten_len _ (bothRow_32 _ (leafPub_length seed leaf) k), bothRow_length]; omega
      have hs2 : (bs (leafPub seed leaf k 0)).size = 32 := by rw [bs_size, leafPub_length]
      have hs3 : (bs (leafPub seed leaf k 1)).size = 32 := by rw [bs_size, leafPub_length]
      have HN := hid (show bs (bothRow (leafPub seed leaf) k).flatten ++ (bs (leafPub seed leaf k 0) ++ bs (leafPub seed leaf k 1)) = bs (bothRow (leafPub seed leaf) (k + 1)).flatten by
        rw [bothRow_succ, List.flatten_append, bs_append, bs_append]
        simp)
      generalize bs (bothRow (leafPub seed leaf) k).flatten = c1 at *
      go_wp2_with fail
      refine (refSecret seed leaf k 0 hs _).mono ?_
      rintro e w1 ⟨rfl, hb⟩
      replace HG := hid (Grow.trans HG.out hb)
      clear hb
      go_wp2_with fail
      refine (refPublic (secretOf seed leaf k 0) (secretOf_length _ _ _ _) _).mono ?_
      rintro e w2 ⟨rfl, hb⟩
      replace HG := hid (Grow.trans HG.out hb)
      clear hb
      go_wp2_with fail
      refine (ref3Bytes (leafPub seed leaf k 0) (leafPub_length _ _ _ _) _).mono ?_
      rintro e w3 ⟨rfl, hb⟩
      replace HG := hid (Grow.trans HG.out hb)
      clear hb
      generalize bs (leafPub seed leaf k 0) = c2 at *
      go_wp2_with fail
      refine (refSecret seed leaf k 1 hs _).mono ?_
      rintro e w4 ⟨rfl, hb⟩
      replace HG := hid (Grow.trans HG.out hb)
      clear hb
      go_wp2_with fail
      refine (refPublic (secretOf seed leaf k 1) (secretOf_length _ _ _ _) _).mono ?_
      rintro e w5 ⟨rfl, hb⟩
      replace HG := hid (Grow.trans HG.out hb)
      clear hb
      go_wp2_with fail
      refine (ref3Bytes (leafPub seed leaf k 1) (leafPub_length _ _ _ _) _).mono ?_
      rintro e w6 ⟨rfl, hb⟩
      replace HG := hid (Grow.trans HG.out hb)
      clear hb
      generalize bs (leafPub seed leaf k 1) = c3 at *
      go_wp2
      go_roundg (n + 1 - (k + 1))
      case rel => exact ⟨k + 1, by omega, rfl, by go_num, by rw [HN.out], HG⟩
      case measure => omega
    · obtain rfl : k = n := by omega
      replace HR := hid (grow_block HR.out HG.out)
      replace HB := hid (Grow.trans HB.out HG.out)
      go_wp2_with fail
      refine (refOf ⟨#[108, 101, 97, 102]⟩ _ _ _ [bs (bothRow (leafPub seed leaf) k).flatten] _ (strRow_alloc _ [bs (bothRow (leafPub seed leaf) k).flatten] _ (by simp)) rfl (by decide) HTX.out).mono ?_
      rintro e w1 ⟨rfl, hb⟩
      replace hb := Grow.trans (grow_alloc _ _) hb
      replace HR := hid (grow_block HR.out hb)
      replace HB := hid (Grow.trans HB.out hb)
      clear hb
      rw [← HF.out]
      go_wp2_with (first |  (refine op_buildId rfl rfl ?_) | (refine op_storeId (l := leafOf seed leaf k) rfl rfl rfl rfl rfl HR.out (by rfl) (HTL.out) ?_))
      intro wz hz _ hbz
      have HZ := hid hz; have HBZ := hid (hbz _ _ HB.out HRL.out)
      clear hz hbz
      go_wp2_with fail
      refine bodyPost_ret (ret_id rfl rfl HZ.out (HTL.out)) rfl ⟨?_, HBZ.out⟩
      rfl
end Go.Proofs.YtabkaflccaklhaaGreat
end
section
/- The law LamportLeaves: walk. -/
namespace Go.Proofs.YtabkaflccaklhaaGreat
open Go.RowKit
open Go.Qk hiding rotr b4
set_option maxHeartbeats 1000000
set_option maxRecDepth 100000
end Go.Proofs.YtabkaflccaklhaaGreat
end
section
/- lamport.Publics, lamport.Recover: contracts. -/
namespace Go.Proofs.YtabkaflccaklhaaGreat
open Go.RowKit
open Go.Qk hiding rotr b4
set_option maxHeartbeats 1000000
set_option maxRecDepth 100000
def pubG (sum : List UInt8) (shown hidden : List (List UInt8)) (b s : Nat) : List UInt8 := if bitI sum b = (s : Int) then publicOf (shown.getD b []) else (if hidden.getD b [] = [] then zero8 32 else hidden.getD b [])
theorem pubG_length (sum : List UInt8) (shown hidden : List (List UInt8)) (hh : ∀ s ∈ hidden, s.length = 32) (b s : Nat) : (pubG sum shown hidden b s).length = 32 := by
  unfold pubG
  split
  · exact publicOf_length _
  · split
    · rfl
    · rename_i h
      by_cases hb : b < hidden.length
      · exact getD_mem_len hh hb
      · exact absurd (by simp [hb]) h
theorem pubG_hid (sum : List UInt8) (shown hidden : List (List UInt8)) (hh : ∀ s ∈ hidden, s.length = 32) (b s : Nat) (hb : b < hidden.length) (h : ¬ bitI sum b = (s : Int)) : pubG sum shown hidden b s = hidden.getD b [] := by
  have := getD_mem_len hh hb
  unfold pubG
  rw [if_neg h, if_neg]
  intro e
  rw [e] at this
  simp at this
theorem ent_pub1 : ∀ args w, (callFunc 142 args).run Tryz.prog w = .ok (.enter 142 args) w := fun _ _ => by kernel_rfl
theorem lamPub1 (sum : List UInt8) (hsum : sum.length = 32) (shown hidden : List (List UInt8)) (hsh : ∀ s ∈ shown, s.length = 32) (hhi : ∀ s ∈ hidden, s.length = 32) (A B : Option Addr) (c d : Nat) (b s : Nat) (hb : b < shown.length) (hb2 : b < hidden.length) (h256 : b < 256) (g3 g4 g5 : Nat) (t3 t4 t5 : TypeId) (w : World)
    (hA : IdRow w A shown) (hB : IdRow w B hidden) (h3 : w.heap[g3]? = some (.cells (u8s sum).toArray t3 (0, 0))) (h4 : w.heap[g4]? = some (.cells #[.slice A shown.length c] t4 (0, 0))) (h5 : w.heap[g5]? = some (.cells #[.slice B hidden.length d] t5 (0, 0))) :
    Calls Tryz.prog 142 #[.int .i64 (b : Int), .int .i64 (s : Int), .pointer (some ⟨g3, 0, none⟩), .pointer (some ⟨g4, 0, none⟩), .pointer (some ⟨g5, 0, none⟩)] w fun e w' => e = .returned (idV (pubG sum shown hidden b s)) ∧ Below w.heap.size w w' := by
  have H3 := hid h3
  have H4 := hid h4
  have H5 := hid h5
  have HA := hid hA
  have HBR := hid hB
  have HS := hid hsum
  have HTL := hid (pubG_length sum shown hidden hhi b s)
  have k0 : (0 : Int) ≤ (b : Int) := by omega
  have k1 : (b : Int) < (shown.length : Int) := by omega
  have k2 : (b : Int) < (hidden.length : Int) := by omega
  have HS1 := hid (getD_mem_len hsh hb)
  have HS2 := hid (getD_mem_len hhi hb2)
  have HG1 := hid (show bitI sum b = (s : Int) → pubG sum shown hidden b s = publicOf (shown.getD b []) from fun h => by unfold pubG; rw [if_pos h])
  have HG2 := hid (pubG_hid sum shown hidden hhi b s hb2)
  obtain ⟨ad, rfl, hc⟩ := hA.at_ b hb
  obtain ⟨bd, rfl, hd⟩ := hB.at_ b hb2
  clear h3 h4 h5 hA hB hsum hsh hhi hc hd
  generalize pubG sum shown hidden b s = R at *
  go_enter Tryz.func142, Tryz.ntmps142
  apply wp_seq_k; intro _ _; apply wp_region_lit
  refine op_alloc rfl rfl ?_
  intro gr W hgl hgu hb hr
  have HR := hid hr; have HB := hid hb; have HRL := hid hgl; have HRU := hid hgu
  clear hr hb hgl hgu
  try simp only [Act.put, List.setIfInBounds_toArray, List.set_cons_zero, List.set_cons_succ]
  replace H3 := hid (grow_block H3.out HB.out)
  replace H4 := hid (grow_block H4.out HB.out)
  replace H5 := hid (grow_block H5.out HB.out)
  replace HA := hid (HA.out.grow HB.out)
  replace HBR := hid (HBR.out.grow HB.out)
  refine wpList_nil ?_
  go_wp2_with (first | (refine op_loadId rfl rfl rfl H3.out (HS.out) ?_) |  fail)
  refine (idBit sum HS.out b h256 _).mono ?_
  rintro e w1 ⟨rfl, hb⟩
  replace HR := hid (grow_block HR.out hb)
  replace HB := hid (Grow.trans HB.out hb)
  replace H3 := hid (grow_block H3.out hb)
  replace H4 := hid (grow_block H4.out hb)
  replace H5 := hid (grow_block H5.out hb)
  replace HA := hid (HA.out.grow hb)
  replace HBR := hid (HBR.out.grow hb)
  clear hb
  obtain ⟨_, hx1, hc⟩ := HA.out.at_ b hb
  obtain rfl := Option.some.inj hx1
  obtain ⟨_, hx2, hd⟩ := HBR.out.at_ b hb2
  obtain rfl := Option.some.inj hx2
  have HC := hid hc
  have HD := hid hd
  have c4 := cell_box H4.out (grow_refl _)
  have c5 := cell_box H5.out (grow_refl _)
  clear hc hd hx1 hx2
  generalize shown.getD b [] = s1 at *
  generalize hidden.getD b [] = s2 at *
  by_cases he : bitI sum b = (s : Int)
  · have t1 : (bitI sum b == (s : Int)) = true := by simpa using he
    have HE := hid (HG1.out he)
    clear he HG1 HG2
    go_wp2_with (first | (refine op_loadAt (l := s1) rfl rfl rfl HC.out HS1.out ?_) | (refine op_loadId rfl rfl rfl H3.out (HS.out) ?_) |  fail)
    clear c4 c5 HC HD
    refine (lamPublic s1 HS1.out _).mono ?_
    rintro e w2 ⟨rfl, hb⟩
    replace HR := hid (grow_block HR.out hb)
    replace HB := hid (Grow.trans HB.out hb)
    replace H3 := hid (grow_block H3.out hb)
    replace H4 := hid (grow_block H4.out hb)
    replace H5 := hid (grow_block H5.out hb)
    replace HA := hid (HA.out.grow hb)
    replace HBR := hid (HBR.out.grow hb)
    clear hb
    rw [← HE.out]
    go_wp2_with (first | (refine op_loadId rfl rfl rfl H3.out (HS.out) ?_) |  (refine op_buildId rfl rfl ?_) | (refine op_storeId (l := R) rfl rfl rfl rfl rfl HR.out (by rfl) (HTL.out) ?_))
    intro wz hz _ hbz
    have HZ := hid hz; have HBZ := hid (hbz _ _ HB.out HRL.out)
    clear hz hbz
    go_wp2_with fail
    refine bodyPost_ret (ret_id rfl rfl HZ.out (HTL.out)) rfl ⟨?_, HBZ.out⟩
    rfl
  · have t1 : (bitI sum b == (s : Int)) = false := by simpa using he
    have HE := hid (HG2.out he)
    rw [← HE.out] at HD HS2
    clear he HG1 HG2
    go_wp2_with (first | (refine op_loadAt (l := R) rfl rfl rfl HD.out HTL.out ?_) | (refine op_loadId rfl rfl rfl H3.out (HS.out) ?_) |  (refine op_buildId rfl rfl ?_) | (refine op_storeId (l := R) rfl rfl rfl rfl rfl HR.out (by rfl) (HTL.out) ?_))
    intro wz hz _ hbz
    have HZ := hid hz; have HBZ := hid (hbz _ _ HB.out HRL.out)
    clear hz hbz
    go_wp2_with fail
    refine bodyPost_ret (ret_id rfl rfl HZ.out (HTL.out)) rfl ⟨?_, HBZ.out⟩
    rfl
def pubRow (sum : List UInt8) (shown hidden : List (List UInt8)) : List (List UInt8) := bothRow (pubG sum shown hidden) shown.length
def pubOk (shown hidden : List (List UInt8)) : Bool := decide (shown.length = hidden.length) && rightB (shown.length : Int)
def RetIdsE (B : Nat) (w : World) (xs : List (List UInt8)) (err : Int) (e : Ending) (w' : World) : Prop := ∃ v, e = .returned (.tuple #[v, .int .i64 err]) ∧ OwnIds 42 B w' v xs ∧ Below w.heap.size w w'
def pubRes (sum : List UInt8) (shown hidden : List (List UInt8)) : List (List UInt8) := if pubOk shown hidden then pubRow sum shown hidden else []
def pubErr (shown hidden : List (List UInt8)) : Int := if pubOk shown hidden then 0 else 3
theorem pub_right {n : Nat} (h : rightB (n : Int) = true) : 8 ≤ n ∧ n ≤ 256 := by simp [rightB] at h; omega
theorem lamPublics (sum : List UInt8) (hsum : sum.length = 32) (shown hidden : List (List UInt8)) (hsh : ∀ s ∈ shown, s.length = 32) (hhi : ∀ s ∈ hidden, s.length = 32) (A B : Option Addr) (n m c d : Nat) (hn : shown.length = n) (hm : hidden.length = m) (w : World) (hA : IdRow w A shown) (hB : IdRow w B hidden) :
    Calls Tryz.prog 101 #[idV sum, .slice A n c, .slice B m d] w (RetIdsE w.heap.size w (pubRes sum shown hidden) (pubErr shown hidden)) := by
  subst hn hm
  have HA := hid hA
  have HBR := hid hB
  have HS := hid hsum
  have HSH := hid hsh
  have HHI := hid hhi
  clear hA hB hsum hsh hhi
  by_cases hne : shown.length = hidden.length
  · have HNE := hid hne
    have t1 : ((shown.length : Int) != (hidden.length : Int)) = false := by simp; omega
    clear hne
    by_cases hr : rightB (shown.length : Int) = true
    · have HRR := hid hr
      have hlim := pub_right hr
      have hok : pubOk shown hidden = true := by unfold pubOk; rw [hr, decide_eq_true HNE.out]; rfl
      have HP1 := hid (show pubRes sum shown hidden = pubRow sum shown hidden by simp [pubRes, hok])
      have HP2 := hid (show pubErr shown hidden = 0 by simp [pubErr, hok])
      clear hok
      clear hr
      rw [HP1.out, HP2.out]
      go_enter Tryz.func101, Tryz.ntmps101
      have HB := hid (grow_refl w)
      apply wp_seq_k; intro _ _; apply wp_region_lit
      refine op_box (l := sum) rfl rfl rfl ?_
      intro g3 w1 hgl hgu hb hr
      have XL := hid (Nat.le_trans HB.out.size hgl)
      replace HB := hid (Grow.trans HB.out hb)
      replace HA := hid (HA.out.grow hb)
      replace HBR := hid (HBR.out.grow hb)
      have X := hid hr; have XU := hid hgu
      clear hr hgl hgu hb
      try simp only [Act.put, List.setIfInBounds_toArray, List.set_cons_zero, List.set_cons_succ]
      refine op_box1 (v := .slice A shown.length c) rfl rfl rfl rfl ?_
      intro g4 W4 _ _ hb h4
      have H4 := hid h4
      replace HB := hid (Grow.trans HB.out hb)
      replace HA := hid (HA.out.grow hb)
      replace HBR := hid (HBR.out.grow hb)
      replace X := hid (grow_block X.out hb)
      clear hb
      clear h4
      simp only [Act.put, List.setIfInBounds_toArray, List.set_cons_zero, List.set_cons_succ]
      refine op_box1 (v := .slice B hidden.length d) rfl rfl rfl rfl ?_
      intro g5 W5 _ _ hb h5
      have H5 := hid h5
      replace HB := hid (Grow.trans HB.out hb)
      replace HA := hid (HA.out.grow hb)
      replace HBR := hid (HBR.out.grow hb)
      replace X := hid (grow_block X.out hb)
      replace H4 := hid (grow_block H4.out hb)
      clear hb
      clear h5
      simp only [Act.put, List.setIfInBounds_toArray, List.set_cons_zero, List.set_cons_succ]
      have c4 := cell_box H4.out (grow_refl _)
      have c5 := cell_box H5.out (grow_refl _)
      go_wp2_with fail
      clear c4 c5
      refine (lamRight shown.length _).mono ?_
      rintro e w2 ⟨rfl, hb⟩
      replace HB := hid (Grow.trans HB.out hb)
      replace HA := hid (HA.out.grow hb)
      replace HBR := hid (HBR.out.grow hb)
      replace X := hid (grow_block X.out hb)
      replace H4 := hid (grow_block H4.out hb)
      replace H5 := hid (grow_block H5.out hb)
      clear hb
      rw [HRR.out]
      have c4 := cell_box H4.out (grow_refl _)
      go_wp2_with fail
      clear c4 t1
      have HF0 := hid (show ∀ (b : Nat) w', b < shown.length → Grow _ w' → Calls Tryz.prog 142 (#[.int .i64 (b : Int), .int .i64 0] ++ #[.pointer (some ⟨g3, 0, none⟩), .pointer (some ⟨g4, 0, none⟩), .pointer (some ⟨g5, 0, none⟩)]) w' fun e w'' => e = .returned (idV (pubG sum shown hidden b 0)) ∧ Below w'.heap.size w' w'' from fun b w' hb hg => by
        rw [show (#[.int .i64 (b : Int), .int .i64 0] ++ #[.pointer (some ⟨g3, 0, none⟩), .pointer (some ⟨g4, 0, none⟩), .pointer (some ⟨g5, 0, none⟩)] : Array Value) = #[.int .i64 (b : Int), .int .i64 ((0 : Nat) : Int), .pointer (some ⟨g3, 0, none⟩), .pointer (some ⟨g4, 0, none⟩), .pointer (some ⟨g5, 0, none⟩)] by simp]
        exact lamPub1 sum HS.out shown hidden HSH.out HHI.out A B c d b 0 hb (by have := HNE.out; omega) (by omega) g3 g4 g5 _ _ _ w' (HA.out.grow hg) (HBR.out.grow hg) (grow_block X.out hg) (grow_block H4.out hg) (grow_block H5.out hg))
      have HF1 := hid (show ∀ (b : Nat) w', b < shown.length → Grow _ w' → Calls Tryz.prog 142 (#[.int .i64 (b : Int), .int .i64 1] ++ #[.pointer (some ⟨g3, 0, none⟩), .pointer (some ⟨g4, 0, none⟩), .pointer (some ⟨g5, 0, none⟩)]) w' fun e w'' => e = .returned (idV (pubG sum shown hidden b 1)) ∧ Below w'.heap.size w' w'' from fun b w' hb hg => by
        rw [show (#[.int .i64 (b : Int), .int .i64 1] ++ #[.pointer (some ⟨g3, 0, none⟩), .pointer (some ⟨g4, 0, none⟩), .pointer (some ⟨g5, 0, none⟩)] : Array Value) = #[.int .i64 (b : Int), .int .i64 ((1 : Nat) : Int), .pointer (some ⟨g3, 0, none⟩), .pointer (some ⟨g4, 0, none⟩), .pointer (some ⟨g5, 0, none⟩)] by simp]
        exact lamPub1 sum HS.out shown hidden HSH.out HHI.out A B c d b 1 hb (by have := HNE.out; omega) (by omega) g3 g4 g5 _ _ _ w' (HA.out.grow hg) (HBR.out.grow hg) (grow_block X.out hg) (grow_block H4.out hg) (grow_block H5.out hg))
      have HZ := hid HB.out.size
      refine (lamBoth shown.length (by omega) _ _ (pubG sum shown hidden) (pubG_length sum shown hidden HHI.out) _ ent_pub1 HF0.out HF1.out).mono ?_
      rintro e w9 ⟨v, rfl, ho, hb⟩
      have HO := hid (ho.base HZ.out)
      have HB9 := hid (Grow.trans HB.out hb)
      clear ho hb HF0 HF1
      go_wp2_with fail
      go_ret2
      exact ⟨v, rfl, HO.out, HB9.out⟩
    · have HRR := hid (show rightB (shown.length : Int) = false by simpa using hr)
      have HP1 := hid (show pubRes sum shown hidden = [] by simp [pubRes, pubOk, HRR.out])
      have HP2 := hid (show pubErr shown hidden = 3 by simp [pubErr, pubOk, HRR.out])
      clear hr
      rw [HP1.out, HP2.out]
      go_enter Tryz.func101, Tryz.ntmps101
      have HB := hid (grow_refl w)
      apply wp_seq_k; intro _ _; apply wp_region_lit
      refine op_box (l := sum) rfl rfl rfl ?_
      intro g3 w3 hgl hgu hb hr
      have XL := hid (Nat.le_trans HB.out.size hgl)
      replace HB := hid (Grow.trans HB.out hb)
      have X := hid hr; have XU := hid hgu
      clear hr hgl hgu hb
      try simp only [Act.put, List.setIfInBounds_toArray, List.set_cons_zero, List.set_cons_succ]
      refine op_box1 (v := .slice A shown.length c) rfl rfl rfl rfl ?_
      intro g4 W4 _ _ hb h4
      have H4 := hid h4
      replace HB := hid (Grow.trans HB.out hb)
      replace X := hid (grow_block X.out hb)
      clear hb
      clear h4
      simp only [Act.put, List.setIfInBounds_toArray, List.set_cons_zero, List.set_cons_succ]
      refine op_box1 (v := .slice B hidden.length d) rfl rfl rfl rfl ?_
      intro g5 W5 _ _ hb h5
      have H5 := hid h5
      replace HB := hid (Grow.trans HB.out hb)
      replace X := hid (grow_block X.out hb)
      replace H4 := hid (grow_block H4.out hb)
      clear hb
      clear h5
      simp only [Act.put, List.setIfInBounds_toArray, List.set_cons_zero, List.set_cons_succ]
      have c4 := cell_box H4.out (grow_refl _)
      have c5 := cell_box H5.out (grow_refl _)
      go_wp2_with fail
      clear c4 c5
      refine (lamRight shown.length _).mono ?_
      rintro e w4 ⟨rfl, hb⟩
      replace HB := hid (Grow.trans HB.out hb)
      replace X := hid (grow_block X.out hb)
      replace H4 := hid (grow_block H4.out hb)
      replace H5 := hid (grow_block H5.out hb)
      clear hb
      rw [HRR.out]
      go_wp2_with fail
      go_ret2
      exact ⟨_, rfl, ⟨World.ownsRow_nil _ _ _ _, fun _ h => by cases h⟩, HB.out⟩
  · have t1 : ((shown.length : Int) != (hidden.length : Int)) = true := by simp; omega
    have HP1 := hid (show pubRes sum shown hidden = [] by simp [pubRes, pubOk, hne])
    have HP2 := hid (show pubErr shown hidden = 3 by simp [pubErr, pubOk, hne])
    clear hne
    rw [HP1.out, HP2.out]
    go_enter Tryz.func101, Tryz.ntmps101
    have HB := hid (grow_refl w)
    apply wp_seq_k; intro _ _; apply wp_region_lit
    refine op_box (l := sum) rfl rfl rfl ?_
    intro g3 w5 hgl hgu hb hr
    have XL := hid (Nat.le_trans HB.out.size hgl)
    replace HB := hid (Grow.trans HB.out hb)
    have X := hid hr; have XU := hid hgu
    clear hr hgl hgu hb
    try simp only [Act.put, List.setIfInBounds_toArray, List.set_cons_zero, List.set_cons_succ]
    refine op_box1 (v := .slice A shown.length c) rfl rfl rfl rfl ?_
    intro g4 W4 _ _ hb h4
    have H4 := hid h4
    replace HB := hid (Grow.trans HB.out hb)
    replace X := hid (grow_block X.out hb)
    clear hb
    clear h4
    simp only [Act.put, List.setIfInBounds_toArray, List.set_cons_zero, List.set_cons_succ]
    refine op_box1 (v := .slice B hidden.length d) rfl rfl rfl rfl ?_
    intro g5 W5 _ _ hb h5
    have H5 := hid h5
    replace HB := hid (Grow.trans HB.out hb)
    replace X := hid (grow_block X.out hb)
    replace H4 := hid (grow_block H4.out hb)
    clear hb
    clear h5
    simp only [Act.put, List.setIfInBounds_toArray, List.set_cons_zero, List.set_cons_succ]
    have c4 := cell_box H4.out (grow_refl _)
    have c5 := cell_box H5.out (grow_refl _)
    go_wp2_with fail
    go_ret2
    exact ⟨_, rfl, ⟨World.ownsRow_nil _ _ _ _, fun _ h => by cases h⟩, HB.out⟩
def recRes (sum : List UInt8) (shown hidden : List (List UInt8)) : List UInt8 := if pubOk shown hidden then chainOf ⟨#[108, 101, 97, 102]⟩ (pubRow sum shown hidden) else zero8 32
theorem recRes_length (sum : List UInt8) (shown hidden : List (List UInt8)) : (recRes sum shown hidden).length = 32 := by unfold recRes; split; exact chainOf_length _ _; rfl
theorem lamRecover (sum : List UInt8) (hsum : sum.length = 32) (shown hidden : List (List UInt8)) (hsh : ∀ s ∈ shown, s.length = 32) (hhi : ∀ s ∈ hidden, s.length = 32) (A B : Option Addr) (n m c d : Nat) (hn : shown.length = n) (hm : hidden.length = m) (w : World) (hA : IdRow w A shown) (hB : IdRow w B hidden) :
    Calls Tryz.prog 102 #[idV sum, .slice A n c, .slice B m d] w fun e w' => e = .returned (.tuple #[idV (recRes sum shown hidden), .int .i64 (pubErr shown hidden)]) ∧ Below w.heap.size w w' := by
  have HA := hid hA
  have HBR := hid hB
  have HS := hid hsum
  have HTL := hid (recRes_length sum shown hidden)
  clear hA hB hsum
  cases hok : pubOk shown hidden with
  | true =>
    have hlim : shown.length ≤ 256 := by simp [pubOk] at hok; exact (pub_right hok.2).2
    have HP1 := hid (show pubRes sum shown hidden = pubRow sum shown hidden by simp [pubRes, hok])
    have HP2 := hid (show pubErr shown hidden = 0 by simp [pubErr, hok])
    have HP3 := hid (show recRes sum shown hidden = chainOf ⟨#[108, 101, 97, 102]⟩ (pubRow sum shown hidden) by simp [recRes, hok])
    have HLR := hid (show (pubRow sum shown hidden).length ≤ 1000000 by rw [pubRow, bothRow_length]; omega)
    clear hok hlim
    go_enter Tryz.func102, Tryz.ntmps102
    have HB := hid (grow_refl w)
    apply wp_seq_k; intro _ _; apply wp_region_lit
    refine op_box (l := sum) rfl rfl rfl ?_
    intro g3 w1 hgl hgu hb hr
    have XL := hid (Nat.le_trans HB.out.size hgl)
    replace HB := hid (Grow.trans HB.out hb)
    replace HA := hid (HA.out.grow hb)
    replace HBR := hid (HBR.out.grow hb)
    have X := hid hr; have XU := hid hgu
    clear hr hgl hgu hb
    try simp only [Act.put, List.setIfInBounds_toArray, List.set_cons_zero, List.set_cons_succ]
    refine op_alloc rfl rfl ?_
    intro gr w2 hgl hgu hb hr
    have HRL := hid (Nat.le_trans HB.out.size hgl)
    replace HB := hid (Grow.trans HB.out hb)
    replace HA := hid (HA.out.grow hb)
    replace HBR := hid (HBR.out.grow hb)
    replace X := hid (grow_block X.out hb)
    have HR := hid hr; have HRU := hid hgu
    clear hr hgl hgu hb
    try simp only [Act.put, List.setIfInBounds_toArray, List.set_cons_zero, List.set_cons_succ]
    go_wp2_with (first | (refine op_loadId rfl rfl rfl X.out (HS.out) ?_) |  fail)
    refine (lamPublics sum HS.out shown hidden hsh hhi A B n m c d hn hm _ HA.out HBR.out).mono ?_
    rintro e w9 ⟨v, rfl, ho, hb⟩
    replace HB := hid (Grow.trans HB.out hb)
    replace HA := hid (HA.out.grow hb)
    replace HBR := hid (HBR.out.grow hb)
    replace X := hid (grow_block X.out hb)
    replace HR := hid (grow_block HR.out hb)
    clear hb
    obtain ⟨⟨A5, c5', rfl, hrow⟩, h32⟩ := ho.sl
    rw [HP1.out] at hrow h32
    rw [HP1.out, HP2.out]
    have HO := hid hrow
    have H32 := hid h32
    clear ho hrow h32
    go_wp2_with fail
    refine (tagChain ⟨#[108, 101, 97, 102]⟩ (by decide) A5 _ _ (pubRow sum shown hidden) _ HO.out rfl H32.out HLR.out).mono ?_
    rintro e w3 ⟨rfl, hb⟩
    replace HB := hid (Grow.trans HB.out hb)
    replace HA := hid (HA.out.grow hb)
    replace HBR := hid (HBR.out.grow hb)
    replace X := hid (grow_block X.out hb)
    replace HR := hid (grow_block HR.out hb)
    replace HO := hid (HO.out.grow hb)
    clear hb
    rw [← HP3.out]
    go_wp2_with (first | (refine op_loadId rfl rfl rfl X.out (HS.out) ?_) |  (refine op_buildId rfl rfl ?_) | (refine op_storeId (l := recRes sum shown hidden) rfl rfl rfl rfl rfl HR.out (by rfl) (HTL.out) ?_))
    intro wz hz _ hbz
    have HZ := hid hz; have HBZ := hid (hbz _ _ HB.out HRL.out)
    clear hz hbz
    go_wp2_with fail
    refine bodyPost_ret (ret_idt rfl rfl HZ.out (HTL.out)) rfl ⟨?_, HBZ.out⟩
    rw [HP2.out]
    rfl
  | false =>
    have HP2 := hid (show pubErr shown hidden = 3 by simp [pubErr, hok])
    have HP3 := hid (show recRes sum shown hidden = zero8 32 by simp [recRes, hok])
    clear hok
    go_enter Tryz.func102, Tryz.ntmps102
    have HB := hid (grow_refl w)
    apply wp_seq_k; intro _ _; apply wp_region_lit
    refine op_box (l := sum) rfl rfl rfl ?_
    intro g3 w4 hgl hgu hb hr
    have XL := hid (Nat.le_trans HB.out.size hgl)
    replace HB := hid (Grow.trans HB.out hb)
    replace HA := hid (HA.out.grow hb)
    replace HBR := hid (HBR.out.grow hb)
    have X := hid hr; have XU := hid hgu
    clear hr hgl hgu hb
    try simp only [Act.put, List.setIfInBounds_toArray, List.set_cons_zero, List.set_cons_succ]
    refine op_alloc rfl rfl ?_
    intro gr w5 hgl hgu hb hr
    have HRL := hid (Nat.le_trans HB.out.size hgl)
    replace HB := hid (Grow.trans HB.out hb)
    replace HA := hid (HA.out.grow hb)
    replace HBR := hid (HBR.out.grow hb)
    replace X := hid (grow_block X.out hb)
    have HR := hid hr; have HRU := hid hgu
    clear hr hgl hgu hb
    try simp only [Act.put, List.setIfInBounds_toArray, List.set_cons_zero, List.set_cons_succ]
    go_wp2_with (first | (refine op_loadId rfl rfl rfl X.out (HS.out) ?_) |  fail)
    refine (lamPublics sum HS.out shown hidden hsh hhi A B n m c d hn hm _ HA.out HBR.out).mono ?_
    rintro e w9 ⟨v, rfl, ho, hb⟩
    replace HB := hid (Grow.trans HB.out hb)
    replace HA := hid (HA.out.grow hb)
    replace HBR := hid (HBR.out.grow hb)
    replace X := hid (grow_block X.out hb)
    replace HR := hid (grow_block HR.out hb)
    clear hb
    clear ho
    rw [HP2.out]
    go_wp2_with (first | (refine op_loadId rfl rfl rfl X.out (HS.out) ?_) |  (refine op_buildId rfl rfl ?_) | (refine op_storeId (l := zero8 32) rfl rfl rfl rfl rfl HR.out (by rfl) (rfl) ?_))
    intro wz hz _ hbz
    have HZ := hid hz; have HBZ := hid (hbz _ _ HB.out HRL.out)
    clear hz hbz
    go_wp2_with fail
    refine bodyPost_ret (ret_idt rfl rfl HZ.out (rfl)) rfl ⟨?_, HBZ.out⟩
    rw [HP3.out, HP2.out]
    rfl
end Go.Proofs.YtabkaflccaklhaaGreat
end
section
/- lamport.Sign, its reference: contracts. -/
namespace Go.Proofs.YtabkaflccaklhaaGreat
open Go.RowKit
open Go.Qk hiding rotr b4
set_option maxHeartbeats 1000000
set_option maxRecDepth 100000
theorem bitI_range (l : List UInt8) (n : Nat) : 0 ≤ bitI l n ∧ bitI l n ≤ 1 := by
  unfold bitI
  omega
theorem refBit6 (l : List UInt8) (hl : l.length = 32) (n : Nat) (hn : n < 256) (w : World) :
    Calls Tryz.prog 31 #[idV l, .int .i64 n] w fun e w' => e = .returned (.int .i64 (bitI l n)) ∧ Below w.heap.size w w' := by
  have HL := hid hl
  clear hl
  go_enter Tryz.func31, Tryz.ntmps31
  have HB := hid (grow_refl w)
  apply wp_seq_k; intro _ _; apply wp_region_lit
  refine op_box (l := l) rfl rfl rfl ?_
  intro gx w1 hgl hgu hb hr
  have XL := hid (Nat.le_trans HB.out.size hgl)
  replace HB := hid (Grow.trans HB.out hb)
  have X := hid hr; have XU := hid hgu
  clear hr hgl hgu hb
  try simp only [Act.put, List.setIfInBounds_toArray, List.set_cons_zero, List.set_cons_succ]
  go_wp2_with (first | (refine op_loadId rfl rfl rfl X.out (HL.out) ?_) |  fail)
  refine (ref3Bytes l HL.out _).mono ?_
  rintro e w2 ⟨rfl, hb⟩
  replace HB := hid (Grow.trans HB.out hb)
  replace X := hid (grow_block X.out hb)
  clear hb
  go_wp2_with fail
  refine (refBit l n HL.out hn _).mono ?_
  rintro e w3 ⟨rfl, hb⟩
  replace HB := hid (Grow.trans HB.out hb)
  replace X := hid (grow_block X.out hb)
  clear hb
  go_wp2
  go_ret
  exact ⟨rfl, HB.out⟩
def shownG (seed : ByteArray) (leaf : Int) (sum : List UInt8) (b : Nat) : List UInt8 := secretOf seed leaf b (bitI sum b)
def hiddenG (seed : ByteArray) (leaf : Int) (sum : List UInt8) (b : Nat) : List UInt8 := publicOf (secretOf seed leaf b (1 - bitI sum b))
def rowOf (g : Nat → List UInt8) (n : Nat) : List (List UInt8) := (List.range n).map g
theorem rowOf_succ (g : Nat → List UInt8) (n : Nat) : rowOf g (n + 1) = rowOf g n ++ [g n] := by simp [rowOf, List.range_succ]
theorem rowOf_length (g : Nat → List UInt8) (n : Nat) : (rowOf g n).length = n := by simp [rowOf]
theorem rowOf_32 (g : Nat → List UInt8) (hg : ∀ b, (g b).length = 32) (n : Nat) : ∀ s ∈ rowOf g n, s.length = 32 := by
  intro s hs
  obtain ⟨b, _, rfl⟩ := List.mem_map.1 hs
  exact hg b
theorem shownG_length (seed : ByteArray) (leaf : Int) (sum : List UInt8) (b : Nat) : (shownG seed leaf sum b).length = 32 := secretOf_length _ _ _ _
theorem hiddenG_length (seed : ByteArray) (leaf : Int) (sum : List UInt8) (b : Nat) : (hiddenG seed leaf sum b).length = 32 := publicOf_length _
def RetSign (B : Nat) (w : World) (xs ys : List (List UInt8)) (err : List Value) (e : Ending) (w' : World) : Prop := ∃ v u, e = .returned (.tuple (v :: u :: err).toArray) ∧ OwnIds 42 B w' v xs ∧ OwnIds 42 B w' u ys ∧ Below w.heap.size w w'
theorem own_empty (w : World) (B : Nat) (hB : B ≤ w.heap.size) (W : World) (h : W.heap[w.heap.size]? = some (.cells #[] 42 (0, 0))) : OwnIds 42 B W (.slice (some ⟨w.heap.size, 0, none⟩) 0 0) [] :=
  ⟨⟨rfl, .inr ⟨w.heap.size, 0, #[], rfl, hB, h, Nat.le_refl _, by simp [maxLen], rfl, rfl⟩⟩, fun _ h => by cases h⟩
theorem refSign (seed : ByteArray) (leaf : Int) (n : Nat) (sum : List UInt8) (hsum : sum.length = 32) (hs : seed.size ≤ 1000000) (hn : n ≤ 256) (w : World) :
    Calls Tryz.prog 59 #[.string seed, .int .i64 leaf, .int .i64 n, idV sum] w (RetSign w.heap.size w (rowOf (shownG seed leaf sum) n) (rowOf (hiddenG seed leaf sum) n) []) := by
  have HS := hid hsum
  clear hsum
  go_enter Tryz.func59, Tryz.ntmps59
  have HB := hid (grow_refl w)
  apply wp_seq_k; intro _ _; apply wp_region_lit
  refine op_box (l := sum) rfl rfl rfl ?_
  intro g7 w1 hgl hgu hb hr
  have XL := hid (Nat.le_trans HB.out.size hgl)
  replace HB := hid (Grow.trans HB.out hb)
  have X := hid hr; have XU := hid hgu
  clear hr hgl hgu hb
  try simp only [Act.put, List.setIfInBounds_toArray, List.set_cons_zero, List.set_cons_succ]
  go_wp2_with fail
  have HT := hid (show Twain (.slice (some ⟨w1.heap.size, 0, none⟩) 0 0) (.slice (some ⟨w1.heap.size + 1, 0, none⟩) 0 0) from fun k h1 h2 => by simp [Value.ownBlock] at h1 h2; omega)
  have HO := hid (own_empty w1 w1.heap.size (Nat.le_refl _) ((w1.alloc (.cells #[] 42)).alloc (.cells #[] 42)) (heap_alloc2_old _ _ _))
  have HU := hid (own_empty (w1.alloc (.cells #[] 42)) w1.heap.size (by simp) ((w1.alloc (.cells #[] 42)).alloc (.cells #[] 42)) (heap_alloc_new _ _))
  have HG := hid (show Grow w1 ((w1.alloc (.cells #[] 42)).alloc (.cells #[] 42)) from ((grow_refl _).alloc' _).alloc' _)
  go_loopg [10, 11, 12] (n + 1) (fun q v u i wr => ∃ k : Nat, k ≤ n ∧ q = n + 1 - k ∧ i = .int .i64 k ∧ Hid (OwnIds 42 w1.heap.size wr v (rowOf (shownG seed leaf sum) k)) ∧ Hid (OwnIds 42 w1.heap.size wr u (rowOf (hiddenG seed leaf sum) k)) ∧ Hid (Twain v u) ∧ Hid (Grow w1 wr))
  case atStart => exact ⟨0, by omega, rfl, rfl, HO, hid (by have h := HU.out; simp only [World.size_alloc] at h; simpa [rowOf] using h), HT, HG⟩
  case round =>
    clear HO HT HU HG
    obtain ⟨k, hk, hq, rfl, HO, HU, HT, HG⟩ := hrel
    by_cases hlt : k < n
    · have k0 : (0 : Int) ≤ (k : Int) := by omega
      have k1 : (k : Int) < (n : Int) := by omega
      have HX := hid (grow_block X.out HG.out)
      have HN1 := hid (rowOf_succ (shownG seed leaf sum) k)
      have HN2 := hid (rowOf_succ (hiddenG seed leaf sum) k)
      have HE1 := hid (show shownG seed leaf sum k = secretOf seed leaf k (bitI sum k) from rfl)
      have HE2 := hid (show hiddenG seed leaf sum k = publicOf (secretOf seed leaf k (1 - bitI sum k)) from rfl)
      obtain ⟨b0, b1⟩ := bitI_range sum k
      have HBIT := hid (fun w => refBit6 sum HS.out k (by omega) w)
      generalize bitI sum k = bt at *
      go_wp2_with (refine op_loadId rfl rfl rfl HX.out HS.out ?_)
      refine (HBIT.out _).mono ?_
      rintro e w3 ⟨rfl, hb⟩
      replace HO := hid (HO.out.grow hb)
      replace HU := hid (HU.out.grow hb)
      replace HG := hid (Grow.trans HG.out hb)
      clear hb HX
      go_wp2_with fail
      refine (refSecret seed leaf k bt hs _).mono ?_
      rintro e w4 ⟨rfl, hb⟩
      rw [← HE1.out]
      replace HO := hid (HO.out.grow hb)
      replace HU := hid (HU.out.grow hb)
      replace HG := hid (Grow.trans HG.out hb)
      clear hb
      go_wp2_with (refine op_appIds1T (w0 := w1) (l1 := shownG seed leaf sum k) rfl rfl rfl rfl rfl rfl (fun _ => rfl) (fun _ => rfl) (shownG_length _ _ _ _) HO.out HU.out HT.out HG.out HG.out.size (by rw [rowOf_length]; omega) ?_)
      intro x5 v5 w5 ho hu ht hb
      rw [← HN1.out] at ho
      clear HO HU HT HG
      have HO := hid ho
      have HU := hid hu
      have HT := hid ht
      have HG := hid hb
      have HX := hid (grow_block X.out HG.out)
      clear ho hu ht hb
      go_wp2_with (refine op_loadId rfl rfl rfl HX.out HS.out ?_)
      refine (HBIT.out _).mono ?_
      rintro e w6 ⟨rfl, hb⟩
      replace HO := hid (HO.out.grow hb)
      replace HU := hid (HU.out.grow hb)
      replace HG := hid (Grow.trans HG.out hb)
      clear hb HX
      go_wp2_with fail
      refine (refSecret seed leaf k (1 - bt) hs _).mono ?_
      rintro e w7 ⟨rfl, hb⟩
      replace HO := hid (HO.out.grow hb)
      replace HU := hid (HU.out.grow hb)
      replace HG := hid (Grow.trans HG.out hb)
      clear hb
      go_wp2_with fail
      refine (refPublic (secretOf seed leaf k (1 - bt)) (secretOf_length _ _ _ _) _).mono ?_
      rintro e w8 ⟨rfl, hb⟩
      rw [← HE2.out]
      replace HO := hid (HO.out.grow hb)
      replace HU := hid (HU.out.grow hb)
      replace HG := hid (Grow.trans HG.out hb)
      clear hb
      go_wp2_with (refine op_appIds1T (w0 := w1) (l1 := hiddenG seed leaf sum k) rfl rfl rfl rfl rfl rfl (fun _ => rfl) (fun _ => rfl) (hiddenG_length _ _ _ _) HU.out HO.out HT.out.symm HG.out HG.out.size (by rw [rowOf_length]; omega) ?_)
      intro x9 v9 w9 hu ho ht hb
      rw [← HN2.out] at hu
      clear HO HU HT HG
      have HO := hid ho
      have HU := hid hu
      have HT := hid ht.symm
      have HG := hid hb
      clear ho hu ht hb
      go_wp2
      go_roundg (n + 1 - (k + 1))
      case rel => exact ⟨k + 1, by omega, rfl, by go_num, HO, HU, HT, HG⟩
      case measure => omega
    · obtain rfl : k = n := by omega
      go_wp2_with fail
      go_ret2
      exact ⟨_, _, rfl, HO.out.base HB.out.size, HU.out.base HB.out.size, HB.out.trans HG.out⟩
end Go.Proofs.YtabkaflccaklhaaGreat
end
section
/- The law LamportSigns: what is signed is recovered; walk. -/
namespace Go.Proofs.YtabkaflccaklhaaGreat
open Go.RowKit
open Go.Qk hiding rotr b4
set_option maxHeartbeats 1000000
set_option maxRecDepth 100000
theorem bothRow_congr (g h : Nat → Nat → List UInt8) (n : Nat) (H : ∀ b, b < n → g b 0 = h b 0 ∧ g b 1 = h b 1) : bothRow g n = bothRow h n := by
  induction n with
  | zero => rfl
  | succ n ih => rw [bothRow_succ, bothRow_succ, ih (fun b hb => H b (by omega)), (H n (by omega)).1, (H n (by omega)).2]
theorem rowOf_getD (g : Nat → List UInt8) (n b : Nat) (h : b < n) : (rowOf g n).getD b [] = g b := by simp [rowOf, h]
theorem sign_pub (seed : ByteArray) (leaf : Int) (sum : List UInt8) (n b s : Nat) (hb : b < n) (hs : s ≤ 1) : pubG sum (rowOf (shownG seed leaf sum) n) (rowOf (hiddenG seed leaf sum) n) b s = leafPub seed leaf b s := by
  have hr := bitI_range sum b
  by_cases he : bitI sum b = (s : Int)
  · unfold pubG
    rw [if_pos he, rowOf_getD _ _ _ hb, shownG, he]
    rfl
  · rw [pubG_hid _ _ _ (rowOf_32 _ (hiddenG_length seed leaf sum) n) _ _ (by rw [rowOf_length]; exact hb) he, rowOf_getD _ _ _ hb, hiddenG, show 1 - bitI sum b = (s : Int) by omega]
    rfl
theorem sign_ok (seed : ByteArray) (leaf : Int) (sum : List UInt8) (n : Nat) (hr : rightB (n : Int) = true) : pubOk (rowOf (shownG seed leaf sum) n) (rowOf (hiddenG seed leaf sum) n) = true := by
  unfold pubOk
  rw [rowOf_length, rowOf_length, hr]
  simp
theorem sign_rec (seed : ByteArray) (leaf : Int) (sum : List UInt8) (n : Nat) (hr : rightB (n : Int) = true) : recRes sum (rowOf (shownG seed leaf sum) n) (rowOf (hiddenG seed leaf sum) n) = leafOf seed leaf n := by
  unfold recRes
  rw [if_pos (sign_ok seed leaf sum n hr), pubRow, rowOf_length, bothRow_congr _ (leafPub seed leaf) n (fun b hb => ⟨sign_pub seed leaf sum n b 0 hb (by omega), sign_pub seed leaf sum n b 1 hb (by omega)⟩)]
  rfl
end Go.Proofs.YtabkaflccaklhaaGreat
end
