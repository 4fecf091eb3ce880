/- law JournalBytes: the walk. -/
import Derived.Test.YtkbapegohodcgaaQJouC
set_option linter.unusedSimpArgs false
set_option linter.unusedVariables false
namespace Go.Proofs.Ytkbapegohodcgaa
open Go.RowKit
open Go.Qk hiding rotr b4
open Pac
set_option maxHeartbeats 4000000
set_option maxRecDepth 100000
def fmBad (x : Int × List UInt8) : Bool := decide (x.1 < 1 ∨ 255 < x.1)
def badN (fs : List (Int × List UInt8)) : Int := if fs.any fmBad then 1 else 0
theorem badN_snoc (fs : List (Int × List UInt8)) (x : Int × List UInt8) : badN (fs ++ [x]) = if badN fs = 0 then (if fmBad x then 1 else 0) else badN fs := by
  unfold badN
  rw [List.any_append]
  cases fs.any fmBad <;> cases h : fmBad x <;> simp [h]
theorem fmAll_get : ∀ (fs : List (Int × List UInt8)) (i j : Nat) (v : Value), i < fs.length → (fmCells (fs.getD i fm0))[j]? = some v → (fmAll fs)[i * 2 + j]? = some v
  | [], i, j, v, h, _ => by simp at h
  | x :: t, 0, j, v, _, hv => by
    have hj : j < 2 := (List.getElem?_eq_some_iff.1 hv).1
    have e : fmAll (x :: t) = fmCells x ++ fmAll t := rfl
    rw [e, List.getElem?_append_left (by show 0 * 2 + j < 2; omega), Nat.zero_mul, Nat.zero_add]
    exact hv
  | x :: t, i + 1, j, v, h, hv => by
    have e : fmAll (x :: t) = fmCells x ++ fmAll t := rfl
    have ih := fmAll_get t i j v (by simpa using h) (by simpa using hv)
    rw [e, List.getElem?_append_right (by show 2 ≤ (i + 1) * 2 + j; omega)]
    have e2 : (i + 1) * 2 + j - (fmCells x).length = i * 2 + j := by show (i + 1) * 2 + j - 2 = _; omega
    rw [e2]
    exact ih
theorem FmRow.own {w : World} {B : Nat} {v : Value} {n : Nat} {fs : List (Int × List UInt8)} {t : TypeId} (h : w.ownsRow B t 2 v n (fmAll fs)) (hn : fs.length = n) (h9 : n ≤ 9223372036854775807) : ∃ A k, v = .slice A n k ∧ FmRow w A fs := by
  obtain ⟨A, k, e, hc⟩ := own_sl h
  refine ⟨A, k, e, by omega, fun hne => ?_⟩
  have h1 : fmAll fs ≠ [] := by
    cases fs with
    | nil => exact absurd rfl hne
    | cons x t => intro h; cases h
  obtain ⟨ad, e1, e2⟩ := hc h1
  refine ⟨ad, e1, fun i hi j u hu => ?_⟩
  have h3 := e2 _ _ (fmAll_get fs i j u hi hu)
  generalize i * 2 = m at *
  rw [show (ad.add m).add j = ad.add (m + j) by unfold Addr.add; by_cases h5 : m = 0 <;> by_cases h6 : j = 0 <;> simp [h5, h6, Nat.add_assoc]]
  exact h3
theorem allF_ge : ∀ (l : List (UInt8 × List UInt8)) (c : List UInt8), l.length ≤ (allF c l).length
  | [], _ => Nat.zero_le _
  | (k, p) :: t, c => by
    have ih := allF_ge t (nextL c k p)
    have e : allF c ((k, p) :: t) = frameB c k p ++ allF (nextL c k p) t := rfl
    have h1 : 1 ≤ (frameB c k p).length := by unfold frameB; simp
    rw [e, List.length_append, List.length_cons]
    omega
theorem fmSize_le : ∀ (fs : List (Int × List UInt8)), (∀ x ∈ fs, x.2.length ≤ 300) → fmSize fs ≤ 320 * fs.length
  | [], _ => by simp [fmSize]
  | x :: t, h => by
    have ih := fmSize_le t (fun y hy => h y (List.mem_cons_of_mem _ hy))
    have h1 := h x List.mem_cons_self
    have e : fmSize (x :: t) = x.2.length + 20 + fmSize t := by simp [fmSize]
    rw [e, List.length_cons]
    omega
theorem firstBad : ∀ (fs : List (Int × List UInt8)), fs.any fmBad = true → (∀ x ∈ fs, x.2.length ≤ 300) → ∃ j, j < fs.length ∧ (∀ i, i < j → fmOk (fs.getD i fm0)) ∧ ((fs.getD j fm0).1 < 1 ∨ 255 < (fs.getD j fm0).1)
  | [], h, _ => by cases h
  | x :: t, h, hp => by
    by_cases hx : x.1 < 1 ∨ 255 < x.1
    · exact ⟨0, by simp, fun i hi => absurd hi (Nat.not_lt_zero i), hx⟩
    · have ht : t.any fmBad = true := by
        rw [List.any_cons] at h
        have e : fmBad x = false := by unfold fmBad; simp only [decide_eq_false_iff_not]; exact hx
        rw [e, Bool.false_or] at h
        exact h
      obtain ⟨j, h1, h2, h3⟩ := firstBad t ht (fun y hy => hp y (List.mem_cons_of_mem _ hy))
      refine ⟨j + 1, by simp; omega, fun i hi => ?_, by simpa using h3⟩
      cases i with
      | zero =>
        have h0 := hp x List.mem_cons_self
        exact ⟨by show 1 ≤ x.1; omega, by show x.1 ≤ 255; omega, by show x.2.length ≤ 4194304; omega⟩
      | succ i => simpa using h2 i (by omega)
def CellsAt (w : World) (ad : Addr) (x : Int × List UInt8) : Prop := ∀ j v, (fmCells x)[j]? = some v → w.cell? (ad.add j) = some v
theorem CellsAt.grow {w w1 : World} {ad : Addr} {x : Int × List UInt8} (h : CellsAt w ad x) (hg : Grow w w1) : CellsAt w1 ad x := fun j v hj => grow_cell (h j v hj) hg
theorem journalBytesW (cid : List UInt8) (A : Option Addr) (n d : Nat) (fs : List (Int × List UInt8)) (w : World) (hcid : cid.length = 32) (hx : FmRow w A fs) (hn : fs.length = n) (hb : n * 24 ≤ 140737488355328) :
    Calls Try.prog 11 #[idV cid, .slice A n d] w fun e w' => e = .returned (.bool true) ∧ Below w.heap.size w w' := by
  have HCI := hid hcid
  have HX := hid hx
  have HN := hid hn
  have HBD := hid hb
  have n9 : n ≤ 9223372036854775807 := by have := hx.1; omega
  clear hx hn hb hcid
  go_enter Try.func11, Try.ntmps11
  have HB := hid (grow_refl w)
  apply wp_seq_k; intro _ _; apply wp_region_lit
  refine op_box (l := cid) rfl rfl rfl ?_
  intro gx w1 hgl hgu hb hr
  have XL := hid (Nat.le_trans HB.out.size hgl)
  replace HB := hid (Grow.trans HB.out hb)
  have X := hid hr; have XU := hid hgu
  clear hr hgl hgu hb
  try simp only [Act.put, List.setIfInBounds_toArray, List.set_cons_zero, List.set_cons_succ]
  have HGX := XL
  go_wp2_with (first | (refine op_loadId rfl rfl rfl X.out (HCI.out) ?_) |  fail)
  refine (plain25 A n d fs _ (HX.out.grow HB.out) HN.out HBD.out).mono ?_
  rintro e w2 ⟨hb, hcase⟩
  replace HB := hid (Grow.trans HB.out hb)
  replace X := hid (grow_block X.out hb)
  clear hb
  rcases hcase with ⟨hall, v, rfl, ho⟩ | ⟨_, rfl⟩
  case inr =>
    go_wp2_with fail
    refine (awake25 _).mono ?_
    rintro _ w3 ⟨rfl, hb⟩
    replace HB := hid (Grow.trans HB.out hb)
    replace X := hid (grow_block X.out hb)
    clear hb
    go_wp2_with fail
    go_ret
    exact ⟨rfl, HB.out⟩
  by_cases h12 : n ≤ 12
  case neg =>
    have t12 : decide (n ≤ 12) = false := by simp; omega
    rw [t12]
    clear h12 t12
    go_wp2_with fail
    refine (awake25 _).mono ?_
    rintro _ w3 ⟨rfl, hb⟩
    replace HB := hid (Grow.trans HB.out hb)
    replace X := hid (grow_block X.out hb)
    clear hb
    go_wp2_with fail
    go_ret
    exact ⟨rfl, HB.out⟩
  have t12 : decide (n ≤ 12) = true := by simp; omega
  rw [t12]
  clear t12
  obtain ⟨M, km, rfl, hm⟩ := FmRow.own ho HN.out n9
  have HM := hid hm
  have HAL := hid hall
  have H12 := hid h12
  clear ho hm hall
  go_wp2_with fail
  go_loopg [7, 32] (n + 1) (fun z v i wr => ∃ k : Nat, k ≤ n ∧ z = n + 1 - k ∧ i = .int .i64 (k : Int) ∧ v = .int .i64 (badN (fs.take k)) ∧ Hid (wr.heap[gx]? = some (.cells (u8s cid).toArray 45 (0, 0))) ∧ Hid (FmRow wr M fs) ∧ Hid (Grow w wr))
  case atStart => exact ⟨0, by omega, by omega, rfl, rfl, X, HM, HB⟩
  case round =>
    clear X HM HB
    obtain ⟨k, hk, hz, rfl, rfl, X, HM, HB⟩ := hrel
    have k0 : (0 : Int) ≤ (k : Int) := by omega
    by_cases hlt : k < n
    · have k1 : (k : Int) < (n : Int) := by omega
      have hkl : k < fs.length := by rw [HN.out]; exact hlt
      obtain ⟨ad, rfl, hc⟩ := (HX.out.grow HB.out).at_ k hkl
      obtain ⟨bd, rfl, hd⟩ := HM.out.at_ k hkl
      have HTK := hid (fm_take fs k hkl)
      have HP3 := hid (HAL.out (fs.getD k fm0) (by simp [hkl]))
      generalize fs.getD k fm0 = y at *
      generalize hbn : badN (fs.take k) = bn at *
      have HBN := hid hbn
      clear hbn
      obtain ⟨ki, p⟩ := y
      have HCC := hid hc
      have HDD := hid (show CellsAt wr (bd.add (k * 2)) (ki, p) from hd)
      clear hc hd
      go_wp2_with (first | (refine wpList_load_agg rfl 93 _ rfl _ rfl (fmCells (ki, p)) _ HCC.out Try.underlying93 rfl (infoFm _) ?_) | (refine op_allocC (z := undef) (cs := #[.int .i64 0, .string ByteArray.empty]) rfl rfl (fun _ => by kernel_rfl) ?_) | fail)
      intro g9 w3 hgl hgu hb4 hr
      clear HCC
      go_wp2_with (first | (refine store_block 93 _ _ g9 0 (fmCells (ki, p)) [.int .i64 0, .string ByteArray.empty] (fmCells (ki, p)) 93 rfl rfl rfl rfl rfl hr (infoFm _) (by simp [fmCells]) (oneFm _) rfl ?_) | fail)
      intro w3b hr5 _ hb5
      have hb := hb5 _ _ hb4 hgl
      have H9 := hid (show w3b.heap[g9]? = some (.cells #[.int .i64 ki, .string (bs p)] 93 (0, 0)) from hr5)
      replace HB := hid (Grow.trans HB.out hb)
      replace X := hid (grow_block X.out hb)
      replace HM := hid (HM.out.grow hb)
      replace HDD := hid (HDD.out.grow hb)
      clear hb
      clear hgl hgu hr hb4 hr5 hb5
      go_wp2_with (first | (refine opG_loadB rfl rfl rfl H9.out Try.underlying93 rfl rfl ?_) | (refine opG_load1 rfl rfl rfl H9.out rfl Try.underlying3 rfl ?_) | (refine opG_load1 rfl rfl rfl H9.out rfl Try.underlying9 rfl ?_) | (refine op_loadId rfl rfl rfl X.out (HCI.out) ?_) |  fail)
      by_cases hbad : ki < 1 ∨ 255 < ki
      · refine (jouNext_kind cid (bs p) ki hbad HCI.out _).mono ?_
        rintro _ w4 ⟨rfl, hb⟩
        replace HB := hid (Grow.trans HB.out hb)
        replace X := hid (grow_block X.out hb)
        replace HM := hid (HM.out.grow hb)
        replace HDD := hid (HDD.out.grow hb)
        replace H9 := hid (grow_block H9.out hb)
        clear hb
        go_wp2_with (first | (refine opG_loadB rfl rfl rfl H9.out Try.underlying93 rfl rfl ?_) | (refine opG_load1 rfl rfl rfl H9.out rfl Try.underlying3 rfl ?_) | (refine opG_load1 rfl rfl rfl H9.out rfl Try.underlying9 rfl ?_) | (refine op_loadId rfl rfl rfl X.out (HCI.out) ?_) |  (refine op_allocstore (l := zero8 32) rfl rfl rfl rfl rfl rfl (fun _ => rfl) ⟨fun _ => rfl, rfl⟩ ?_))
        intro g10 w2 hgl hgu hb hr
        have YL := hid (Nat.le_trans HB.out.size hgl)
        replace HB := hid (Grow.trans HB.out hb)
        replace X := hid (grow_block X.out hb)
        replace HM := hid (HM.out.grow hb)
        replace HDD := hid (HDD.out.grow hb)
        replace H9 := hid (grow_block H9.out hb)
        have Y := hid hr; have YU := hid hgu
        clear hr hgl hgu hb
        try simp only [Act.put, List.setIfInBounds_toArray, List.set_cons_zero, List.set_cons_succ]
        go_wp2_with (first | (refine opG_loadB rfl rfl rfl H9.out Try.underlying93 rfl rfl ?_) | (refine opG_load1 rfl rfl rfl H9.out rfl Try.underlying3 rfl ?_) | (refine opG_load1 rfl rfl rfl H9.out rfl Try.underlying9 rfl ?_) | (refine op_loadId rfl rfl rfl X.out (HCI.out) ?_) | (refine op_loadId rfl rfl rfl Y.out (rfl) ?_) |  fail)
        refine (jouBytes_bad cid (bs p) ki hbad HCI.out _).mono ?_
        rintro _ w6 ⟨rfl, hb2⟩
        replace HB := hid (Grow.trans HB.out hb2)
        replace X := hid (grow_block X.out hb2)
        replace HM := hid (HM.out.grow hb2)
        replace HDD := hid (HDD.out.grow hb2)
        replace H9 := hid (grow_block H9.out hb2)
        replace Y := hid (grow_block Y.out hb2)
        clear hb2
        go_wp2_with (first | (refine wpList_load_agg rfl 99 _ rfl _ rfl (fmCells (ki, p)) _ HDD.out Try.underlying99 rfl (infoF25 _) ?_) | fail)
        refine (wrong25 ki (bs p) _).mono ?_
        rintro _ w7 ⟨rfl, hb⟩
        replace HB := hid (Grow.trans HB.out hb)
        replace X := hid (grow_block X.out hb)
        replace HM := hid (HM.out.grow hb)
        replace HDD := hid (HDD.out.grow hb)
        replace H9 := hid (grow_block H9.out hb)
        replace Y := hid (grow_block Y.out hb)
        clear hb
        rw [show wrongN ki (bs p).size = 1 from by unfold wrongN; rw [if_pos hbad]]
        have hq1 : ∀ w, (Go.binOp .neq 45 (idV (zero8 32)) (idV (zero8 32))).run Try.prog w = .ok (.bool false) w := fun w => by
          have h := id_neq (zero8 32) (zero8 32) rfl rfl w
          simpa using h
        have hq2 := id_guard .neq (zero8 32) (zero8 32)
        have hwd : ((bs p).size : Int) = (bs p).size := rfl
        clear hwd
        have hb01 : bn = 0 ∨ bn = 1 := by
          rw [← HBN.out]; unfold badN; by_cases h : (fs.take k).any fmBad = true
          · right; rw [if_pos h]
          · left; rw [if_neg h]
        have HNX := hid (show badN (fs.take (k + 1)) = 1 by
          rw [HTK.out, badN_snoc]
          have hf : fmBad (ki, p) = true := by unfold fmBad; simp [hbad]
          rw [hf, HBN.out]
          rcases hb01 with h | h <;> simp [h])
        rcases hb01 with rfl | rfl
        · go_wp2_with (first | (refine op_buildId rfl rfl ?_) | (refine opG_loadB rfl rfl rfl H9.out Try.underlying93 rfl rfl ?_) | (refine opG_load1 rfl rfl rfl H9.out rfl Try.underlying3 rfl ?_) | (refine opG_load1 rfl rfl rfl H9.out rfl Try.underlying9 rfl ?_) | (refine op_loadId rfl rfl rfl X.out (HCI.out) ?_) | (refine op_loadId rfl rfl rfl Y.out (rfl) ?_) |  fail)
          go_roundg (n + 1 - (k + 1))
          case rel => exact ⟨k + 1, by omega, rfl, by go_num, by rw [HNX.out], X, HM, HB⟩
          case measure => omega
        · go_wp2_with (first | (refine op_buildId rfl rfl ?_) | (refine opG_loadB rfl rfl rfl H9.out Try.underlying93 rfl rfl ?_) | (refine opG_load1 rfl rfl rfl H9.out rfl Try.underlying3 rfl ?_) | (refine opG_load1 rfl rfl rfl H9.out rfl Try.underlying9 rfl ?_) | (refine op_loadId rfl rfl rfl X.out (HCI.out) ?_) | (refine op_loadId rfl rfl rfl Y.out (rfl) ?_) |  fail)
          go_roundg (n + 1 - (k + 1))
          case rel => exact ⟨k + 1, by omega, rfl, by go_num, by rw [HNX.out], X, HM, HB⟩
          case measure => omega
      · skip
        have hok : fmOk (ki, p) := ⟨by show 1 ≤ ki; omega, by show ki ≤ 255; omega, by have := HP3.out; show p.length ≤ 4194304; omega⟩
        obtain ⟨q1, q2⟩ := fmG_kind hok
        have hp4 : p.length ≤ 4194304 := hok.2.2
        obtain ⟨kb, hkb⟩ : ∃ kb, kb = (fmG (ki, p)).1 := ⟨_, rfl⟩
        rw [← hkb] at q1 q2
        dsimp only at q1
        subst q1
        have HJN := hid (fun w => jouNext cid p kb HCI.out hp4 q2 w)
        have HJB := hid (fun w => jouBytes cid p kb HCI.out hp4 q2 w)
        have HRN := hid (fun w => next25 cid p kb HCI.out hp4 w)
        have HRB := hid (fun w => bytes25 cid p kb HCI.out hp4 w)
        have HNL := hid (nextL_length cid kb p)
        have hw0 : wrongN (kb.toNat : Int) (bs p).size = 0 := by unfold wrongN; rw [if_neg hbad, if_neg (by rw [bs_size]; omega)]
        have HNX := hid (show badN (fs.take (k + 1)) = bn by
          rw [HTK.out, badN_snoc]
          have hf : fmBad ((kb.toNat : Int), p) = false := by unfold fmBad; simp only [decide_eq_false_iff_not]; exact hbad
          rw [hf, HBN.out]
          by_cases h : bn = 0 <;> simp [h])
        clear hok hkb q2 hp4 hbad
        generalize nextL cid kb p = N at *
        generalize frameB cid kb p = F at *
        refine (HJN.out _).mono ?_
        rintro _ w4 ⟨rfl, hb⟩
        replace HB := hid (Grow.trans HB.out hb)
        replace X := hid (grow_block X.out hb)
        replace HM := hid (HM.out.grow hb)
        replace HDD := hid (HDD.out.grow hb)
        replace H9 := hid (grow_block H9.out hb)
        clear hb
        go_wp2_with (first | (refine opG_loadB rfl rfl rfl H9.out Try.underlying93 rfl rfl ?_) | (refine opG_load1 rfl rfl rfl H9.out rfl Try.underlying3 rfl ?_) | (refine opG_load1 rfl rfl rfl H9.out rfl Try.underlying9 rfl ?_) | (refine op_loadId rfl rfl rfl X.out (HCI.out) ?_) |  (refine op_allocstore (l := N) rfl rfl rfl rfl rfl rfl (fun _ => rfl) ⟨fun _ => rfl, HNL.out⟩ ?_))
        intro g10 w3 hgl hgu hb hr
        have YL := hid (Nat.le_trans HB.out.size hgl)
        replace HB := hid (Grow.trans HB.out hb)
        replace X := hid (grow_block X.out hb)
        replace HM := hid (HM.out.grow hb)
        replace HDD := hid (HDD.out.grow hb)
        replace H9 := hid (grow_block H9.out hb)
        have Y := hid hr; have YU := hid hgu
        clear hr hgl hgu hb
        try simp only [Act.put, List.setIfInBounds_toArray, List.set_cons_zero, List.set_cons_succ]
        go_wp2_with (first | (refine opG_loadB rfl rfl rfl H9.out Try.underlying93 rfl rfl ?_) | (refine opG_load1 rfl rfl rfl H9.out rfl Try.underlying3 rfl ?_) | (refine opG_load1 rfl rfl rfl H9.out rfl Try.underlying9 rfl ?_) | (refine op_loadId rfl rfl rfl X.out (HCI.out) ?_) | (refine op_loadId rfl rfl rfl Y.out (HNL.out) ?_) |  fail)
        refine (HJB.out _).mono ?_
        rintro _ w6 ⟨rfl, hb⟩
        replace HB := hid (Grow.trans HB.out hb)
        replace X := hid (grow_block X.out hb)
        replace HM := hid (HM.out.grow hb)
        replace HDD := hid (HDD.out.grow hb)
        replace H9 := hid (grow_block H9.out hb)
        replace Y := hid (grow_block Y.out hb)
        clear hb
        go_wp2_with (first | (refine wpList_load_agg rfl 99 _ rfl _ rfl (fmCells ((kb.toNat : Int), p)) _ HDD.out Try.underlying99 rfl (infoF25 _) ?_) | fail)
        refine (wrong25 (kb.toNat : Int) (bs p) _).mono ?_
        rintro _ w7 ⟨rfl, hb⟩
        replace HB := hid (Grow.trans HB.out hb)
        replace X := hid (grow_block X.out hb)
        replace HM := hid (HM.out.grow hb)
        replace HDD := hid (HDD.out.grow hb)
        replace H9 := hid (grow_block H9.out hb)
        replace Y := hid (grow_block Y.out hb)
        clear hb
        rw [hw0]
        clear hw0
        have hq1 : ∀ w, (Go.binOp .neq 45 (idV N) (idV N)).run Try.prog w = .ok (.bool false) w := fun w => by
          have h := id_neq N N HNL.out HNL.out w
          simpa using h
        have hq2 := id_guard .neq N N
        go_wp2_with (first | (refine opG_loadB rfl rfl rfl H9.out Try.underlying93 rfl rfl ?_) | (refine opG_load1 rfl rfl rfl H9.out rfl Try.underlying3 rfl ?_) | (refine opG_load1 rfl rfl rfl H9.out rfl Try.underlying9 rfl ?_) | (refine op_loadId rfl rfl rfl X.out (HCI.out) ?_) | (refine op_loadId rfl rfl rfl Y.out (HNL.out) ?_) |  fail)
        (refine' wp_region_head 18 0 [_, _, _, _, _, _, _, _, _, _, _, _, _, _, _, _, _, _] rfl (by kernel_rfl) (by kernel_rfl) ?hreg1; case' hreg1 => simp only [List.take_succ_cons, List.take_zero, List.zip_cons_cons, List.zip_nil_right, List.drop_succ_cons, List.drop_zero, List.drop_nil])
        (refine' head_loadId (x := _) rfl ?_ rfl rfl Y.out (HNL.out) ?_; (first | exact fun _ _ _ => trivial | (intro t ht w; cases ht; simp [upE])); try simp only [Act.put, List.setIfInBounds_toArray, List.set_cons_zero, List.set_cons_succ])
        (refine' head_loadId (x := _) rfl ?_ rfl rfl X.out (HCI.out) ?_; (first | exact fun _ _ _ => trivial | (intro t ht w; cases ht; simp [upE])); try simp only [Act.put, List.setIfInBounds_toArray, List.set_cons_zero, List.set_cons_succ])
        (refine' head_val ?dw2 ?de2 ?dr2 ?dh2; (case' dw2 => rfl); (case' de2 => (first | exact fun _ _ _ => trivial | (intro t ht w; cases ht; simp [upE]))); (case' dr2 => (intro w' hw' _; go_simp; with_reducible rfl)); (case' dh2 => (try simp only [Act.put, List.setIfInBounds_toArray, List.set_cons_zero, List.set_cons_succ]))); (refine' head_val ?dw3 ?de3 ?dr3 ?dh3; (case' dw3 => rfl); (case' de3 => (first | exact fun _ _ _ => trivial | (intro t ht w; cases ht; simp [upE]))); (case' dr3 => (intro w' hw' _; go_simp; with_reducible rfl)); (case' dh3 => (try simp only [Act.put, List.setIfInBounds_toArray, List.set_cons_zero, List.set_cons_succ]))); (refine' head_val ?dw4 ?de4 ?dr4 ?dh4; (case' dw4 => rfl); (case' de4 => (first | exact fun _ _ _ => trivial | (intro t ht w; cases ht; simp [upE]))); (case' dr4 => (intro w' hw' _; go_simp; with_reducible rfl)); (case' dh4 => (try simp only [Act.put, List.setIfInBounds_toArray, List.set_cons_zero, List.set_cons_succ])))
        (refine' head_loadG (cs := fmCells ((kb.toNat : Int), p)) rfl ?_ rfl rfl HDD.out Try.underlying99 rfl (infoF25 _) ?_; (first | exact fun _ _ _ => trivial | (intro t ht w; cases ht; simp [upE])); try simp only [Act.put, List.setIfInBounds_toArray, List.set_cons_zero, List.set_cons_succ])
        (refine' head_call ?cw5 ?ce5 ?cr5 ?cc5 ?ch5; (case' cw5 => rfl); (case' ce5 => (first | exact fun _ _ _ => trivial | (intro t ht w; cases ht; simp [upE]))); (case' cr5 => (intro w'; go_simp; first | exact ⟨rfl, rfl⟩ | with_reducible rfl)); (case' cc5 => (intro w' hw' _; exact HRN.out w')); (case' ch5 => (try simp only [Act.put, List.setIfInBounds_toArray, List.set_cons_zero, List.set_cons_succ])))
        (refine' head_val ?dw6 ?de6 ?dr6 ?dh6; (case' dw6 => rfl); (case' de6 => (first | exact fun _ _ _ => trivial | (intro t ht w; cases ht; simp [upE]))); (case' dr6 => (intro w' hw' _; go_simp; with_reducible rfl)); (case' dh6 => (try simp only [Act.put, List.setIfInBounds_toArray, List.set_cons_zero, List.set_cons_succ]))); (refine' head_val ?dw7 ?de7 ?dr7 ?dh7; (case' dw7 => rfl); (case' de7 => (first | exact fun _ _ _ => trivial | (intro t ht w; cases ht; simp [upE]))); (case' dr7 => (intro w' hw' _; go_simp; with_reducible rfl)); (case' dh7 => (try simp only [Act.put, List.setIfInBounds_toArray, List.set_cons_zero, List.set_cons_succ]))); (refine' head_val ?dw8 ?de8 ?dr8 ?dh8; (case' dw8 => rfl); (case' de8 => (first | exact fun _ _ _ => trivial | (intro t ht w; cases ht; simp [upE]))); (case' dr8 => (intro w' hw' _; go_simp; with_reducible rfl)); (case' dh8 => (try simp only [Act.put, List.setIfInBounds_toArray, List.set_cons_zero, List.set_cons_succ])))
        (refine' head_loadId (x := _) rfl ?_ rfl rfl X.out (HCI.out) ?_; (first | exact fun _ _ _ => trivial | (intro t ht w; cases ht; simp [upE])); try simp only [Act.put, List.setIfInBounds_toArray, List.set_cons_zero, List.set_cons_succ])
        (refine' head_val ?dw9 ?de9 ?dr9 ?dh9; (case' dw9 => rfl); (case' de9 => (first | exact fun _ _ _ => trivial | (intro t ht w; cases ht; simp [upE]))); (case' dr9 => (intro w' hw' _; go_simp; with_reducible rfl)); (case' dh9 => (try simp only [Act.put, List.setIfInBounds_toArray, List.set_cons_zero, List.set_cons_succ]))); (refine' head_val ?dw10 ?de10 ?dr10 ?dh10; (case' dw10 => rfl); (case' de10 => (first | exact fun _ _ _ => trivial | (intro t ht w; cases ht; simp [upE]))); (case' dr10 => (intro w' hw' _; go_simp; with_reducible rfl)); (case' dh10 => (try simp only [Act.put, List.setIfInBounds_toArray, List.set_cons_zero, List.set_cons_succ]))); (refine' head_val ?dw11 ?de11 ?dr11 ?dh11; (case' dw11 => rfl); (case' de11 => (first | exact fun _ _ _ => trivial | (intro t ht w; cases ht; simp [upE]))); (case' dr11 => (intro w' hw' _; go_simp; with_reducible rfl)); (case' dh11 => (try simp only [Act.put, List.setIfInBounds_toArray, List.set_cons_zero, List.set_cons_succ])))
        (refine' head_loadG (cs := fmCells ((kb.toNat : Int), p)) rfl ?_ rfl rfl HDD.out Try.underlying99 rfl (infoF25 _) ?_; (first | exact fun _ _ _ => trivial | (intro t ht w; cases ht; simp [upE])); try simp only [Act.put, List.setIfInBounds_toArray, List.set_cons_zero, List.set_cons_succ])
        (refine' head_call ?cw12 ?ce12 ?cr12 ?cc12 ?ch12; (case' cw12 => rfl); (case' ce12 => (first | exact fun _ _ _ => trivial | (intro t ht w; cases ht; simp [upE]))); (case' cr12 => (intro w'; go_simp; first | exact ⟨rfl, rfl⟩ | with_reducible rfl)); (case' cc12 => (intro w' hw' _; exact HRB.out w')); (case' ch12 => (try simp only [Act.put, List.setIfInBounds_toArray, List.set_cons_zero, List.set_cons_succ])))
        (refine' head_val (v := .bool false) ?dw13 ?de13 ?dr13 ?dh13; (case' dw13 => rfl); (case' de13 => (first | exact fun _ _ _ => trivial | (intro t ht w; cases ht; simp [upE]))); (case' dr13 => (intro w' hw' hE; (go_simp; try simp))); (case' dh13 => (try simp only [Act.put, List.setIfInBounds_toArray, List.set_cons_zero, List.set_cons_succ])))
        (refine' head_val ?dw14 ?de14 ?dr14 ?dh14; (case' dw14 => rfl); (case' de14 => (first | exact fun _ _ _ => trivial | (intro t ht w; cases ht; simp [upE]))); (case' dr14 => (intro w' hw' _; go_simp; with_reducible rfl)); (case' dh14 => (try simp only [Act.put, List.setIfInBounds_toArray, List.set_cons_zero, List.set_cons_succ])))
        refine head_nil ?_
        intro w4 hb _
        replace HB := hid (Grow.trans HB.out hb)
        replace X := hid (grow_block X.out hb)
        replace HM := hid (HM.out.grow hb)
        replace HDD := hid (HDD.out.grow hb)
        replace H9 := hid (grow_block H9.out hb)
        replace Y := hid (grow_block Y.out hb)
        clear hb
        refine wpList_nil ?_
        go_wp2_with fail
        go_roundg (n + 1 - (k + 1))
        case rel => exact ⟨k + 1, by omega, rfl, by go_num, by rw [HNX.out], X, HM, HB⟩
        case measure => omega
    · obtain rfl : k = n := by omega
      have HTT := hid (List.take_of_length_le (show fs.length ≤ k by rw [HN.out]; omega))
      rw [HTT.out]
      have HFS := hid (fun q (_ : q ≤ k) => show fmSize (fs.take q) ≤ 500000000 by
        have h1 := fmSize_le (fs.take q) (fun x hx => HAL.out x (List.mem_of_mem_take hx))
        have h2 : (fs.take q).length ≤ 12 := by rw [List.length_take, HN.out]; have := H12.out; omega
        omega)
      by_cases hany : fs.any fmBad = true
      · have hbn : badN fs = 1 := by unfold badN; rw [if_pos hany]
        rw [hbn]
        obtain ⟨j, j1, j2, j3⟩ := firstBad fs hany HAL.out
        have HJ1 := hid (show j < k by rw [← HN.out]; exact j1)
        have HJ2 := hid j2
        have HJ3 := hid j3
        clear hany hbn j1 j2 j3 hlt hk
        go_wp2_with fail
        refine (jouAll_bad A k d j fs _ (HX.out.grow HB.out) HN.out HJ1.out HJ2.out HJ3.out HFS.out).mono ?_
        rintro _ w3 ⟨rfl, hb⟩
        replace HB := hid (Grow.trans HB.out hb)
        clear hb
        clear X HM
        go_wp2_with fail
        refine (awake25 _).mono ?_
        rintro _ w4 ⟨rfl, hb⟩
        replace HB := hid (Grow.trans HB.out hb)
        go_wp2_with fail
        go_ret
        exact ⟨rfl, HB.out⟩
      · have hbn : badN fs = 0 := by unfold badN; rw [if_neg hany]
        rw [hbn]
        have hok : ∀ x ∈ fs, fmOk x := fun x hx => by
          have h0 := HAL.out x hx
          have h1 : ¬ (x.1 < 1 ∨ 255 < x.1) := fun h => hany (List.any_eq_true.2 ⟨x, hx, by unfold fmBad; simp [h]⟩)
          exact ⟨by omega, by omega, by omega⟩
        have HOK := hid hok
        have HSZ := hid (show (allF beginL (fs.map fmG)).length ≤ 100000000 by
          have h1 := allF_len fs beginL hok
          have h2 := fmSize_le fs HAL.out
          have := H12.out
          rw [HN.out] at h2
          omega)
        have HSC := hid (fun w => jouScan (allF beginL (fs.map fmG)) HSZ.out w)
        have hsc : scanR (allF beginL (fs.map fmG)) = (fs.map fmG, (allF beginL (fs.map fmG)).length, chainF beginL (fs.map fmG)) := by
          have h := scanF_all (fs.map fmG) beginL [] (allF beginL (fs.map fmG)).length (fun y hy => by
            obtain ⟨x, hx, rfl⟩ := List.mem_map.1 hy
            exact ⟨(fmG_kind (hok x hx)).2, (hok x hx).2.2⟩) (allF_ge _ _) (by simp [oneF])
          rw [List.append_nil] at h
          exact h
        have hfr : frCells (fs.map fmG) = fmAll fs := by
          unfold frCells fmAll
          rw [List.map_map, List.flatMap_def]
          refine congrArg List.flatten (List.map_congr_left fun x hx => ?_)
          have h := (fmG_kind (hok x hx)).1
          show [Value.int .i64 ((fmG x).1.toNat : Int), Value.string (bs x.2)] = fmCells x
          rw [h]
          rfl
        rw [hsc] at HSC
        dsimp only at HSC
        rw [hfr, List.length_map, HN.out] at HSC
        have HCL := hid (chainF_length (fs.map fmG) beginL beginL_length)
        have HJA := hid (fun w (h : FmRow w A fs) => jouAll A k d fs w h HN.out hok HFS.out)
        have HRA := hid (fun w (h : FmRow w M fs) => refAll25 M k km fs w h HN.out hok HFS.out)
        clear hany hbn hok hsc hfr
        generalize allF beginL (fs.map fmG) = S at *
        generalize chainF beginL (fs.map fmG) = c at *
        clear X
        go_wp2_with fail
        refine (HJA.out _ (HX.out.grow HB.out)).mono ?_
        rintro _ w3 ⟨rfl, hb⟩
        replace HB := hid (Grow.trans HB.out hb)
        replace HM := hid (HM.out.grow hb)
        clear hb
        go_wp2_with fail
        refine (HSC.out _).mono ?_
        rintro _ w4 ⟨ov, rfl, ho, hb⟩
        replace HB := hid (Grow.trans HB.out hb)
        replace HM := hid (HM.out.grow hb)
        clear hb
        obtain ⟨A2, k2, rfl, hm2⟩ := FmRow.own ho HN.out n9
        have HM2 := hid hm2
        clear ho hm2
        go_wp2_with (first | (refine op_alloc rfl rfl ?_) | fail)
        intro gy w5 hgl hgu hb hr
        go_wp2_with (first | (refine op_storeId (l := c) rfl rfl rfl rfl rfl hr (by rfl) HCL.out ?_) | fail)
        intro w6 hW hgr hbel
        have hb2 := hbel _ _ hb hgl
        replace HB := hid (Grow.trans HB.out hb2)
        replace HM := hid (HM.out.grow hb2)
        replace HM2 := hid (HM2.out.grow hb2)
        clear hb2
        clear hb hgl hgu hr hW hgr hbel
        go_wp2_with fail
        refine (plain25 A2 k k2 fs _ HM2.out HN.out HBD.out).mono ?_
        rintro e w7 ⟨hb, hcase⟩
        replace HB := hid (Grow.trans HB.out hb)
        replace HM := hid (HM.out.grow hb)
        replace HM2 := hid (HM2.out.grow hb)
        clear hb
        rcases hcase with ⟨_, v3, rfl, ho⟩ | ⟨hno, _⟩
        case inr => exact absurd HAL.out hno
        obtain ⟨A3, k3, rfl, hm3⟩ := FmRow.own ho HN.out n9
        have HM3 := hid hm3
        clear ho hm3
        go_wp2_with fail
        refine (HRA.out _ HM.out).mono ?_
        rintro _ w8 ⟨rfl, hb⟩
        replace HB := hid (Grow.trans HB.out hb)
        replace HM := hid (HM.out.grow hb)
        replace HM2 := hid (HM2.out.grow hb)
        replace HM3 := hid (HM3.out.grow hb)
        clear hb
        go_wp2_with fail
        refine (refSame25 A3 M k k k3 km fs fs _ HM3.out HM.out HN.out HN.out).mono ?_
        rintro _ w9 ⟨rfl, hb⟩
        replace HB := hid (Grow.trans HB.out hb)
        replace HM := hid (HM.out.grow hb)
        replace HM2 := hid (HM2.out.grow hb)
        replace HM3 := hid (HM3.out.grow hb)
        clear hb
        rw [show decide (fs = fs) = true by simp]
        go_wp2_with fail
        refine (awake25 _).mono ?_
        rintro _ w10 ⟨rfl, hb⟩
        replace HB := hid (Grow.trans HB.out hb)
        replace HM := hid (HM.out.grow hb)
        replace HM2 := hid (HM2.out.grow hb)
        replace HM3 := hid (HM3.out.grow hb)
        clear hb
        go_wp2_with fail
        go_ret
        exact ⟨rfl, HB.out⟩
end Go.Proofs.Ytkbapegohodcgaa
