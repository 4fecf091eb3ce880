/- quitclaimref05's reader: count, some, GetText: contracts. -/
import Derived.Test.YtabkaflccaklhaaQJouE
set_option linter.unusedSimpArgs false
set_option linter.unusedVariables false
namespace Go.Proofs.Ytabkaflccaklhaa
open Go.RowKit
open Go.Qk hiding rotr b4
open Pac
set_option maxHeartbeats 4000000
set_option maxRecDepth 100000
theorem posR_le {L : List UInt8} {p : Nat} (hp : p ≤ L.length) : posR p (numR L p) ≤ L.length ∧ 0 ≤ valR (numR L p) ∧ valR (numR L p) ≤ 4611686018427387904 := by
  cases h : numR L p with
  | ok v k =>
    obtain ⟨u, j, h1, h2, h3, h4, h5, h6, h7⟩ := rdN_once _ 0 0 v k h
    simp at h4
    exact ⟨by show p + k ≤ _; omega, by show (0 : Int) ≤ (v : Int); omega, by show (v : Int) ≤ _; omega⟩
  | short => exact ⟨hp, Int.le_refl _, by decide⟩
  | form => exact ⟨hp, Int.le_refl _, by decide⟩
theorem refCount05 (L : List UInt8) (p most : Nat) (hp : p ≤ L.length) (hL : L.length ≤ 1000000000) (w : World) :
    Calls Try.prog 140 #[rgV L p 0, .int .i64 (most : Int)] w fun r w' => ∃ (p1 : Nat) (e1 v1 : Int), r = .returned (.tuple #[rgV L p1 e1, .int .i64 v1]) ∧ ((errR (numR L p) = 0 ∧ (most : Int) < valR (numR L p) ∧ p1 = p ∧ e1 = 4 ∧ v1 = 0) ∨ (¬ (errR (numR L p) = 0 ∧ (most : Int) < valR (numR L p)) ∧ p1 = posR p (numR L p) ∧ e1 = errR (numR L p) ∧ v1 = valR (numR L p))) ∧ Below w.heap.size w w' := by
  have HGN := hid (fun w => refGetNum05 L p hp hL w)
  generalize numR L p = R at *
  generalize posR p R = q at *
  generalize errR R = e at *
  generalize valR R = v at *
  go_enter Try.func140, Try.ntmps140
  have HB := hid (grow_refl w)
  apply wp_seq_k; intro _ _; apply wp_region_lit
  go_wp2_with (first | (refine op_boxC (cs := #[.string (bs L), .int .i64 (p : Int), .int .i64 0]) rfl rfl rfl rfl ?_) | fail)
  intro gp w1 hgl hgu hb hr
  have PL := hid (Nat.le_trans HB.out.size hgl)
  replace HB := hid (Grow.trans HB.out hb)
  have P := hid hr
  clear hr hgl hgu hb
  try simp only [Act.put, List.setIfInBounds_toArray, List.set_cons_zero, List.set_cons_succ]
  go_wp2_with (first | (refine op_allocC (z := undef) (cs := #[.string ByteArray.empty, .int .i64 0, .int .i64 0]) rfl rfl (fun _ => by kernel_rfl) ?_) | fail)
  intro gz w2 hgl hgu hb hr
  have ZL := hid (Nat.le_trans HB.out.size hgl)
  have nP_Z := Nat.lt_of_lt_of_le (Array.getElem?_eq_some_iff.1 P.out).1 hgl
  replace HB := hid (Grow.trans HB.out hb)
  replace P := hid (grow_block P.out hb)
  have Z := hid hr
  clear hr hgl hgu hb
  try simp only [Act.put, List.setIfInBounds_toArray, List.set_cons_zero, List.set_cons_succ]
  go_wp2_with (first | (refine opG_loadB rfl rfl rfl P.out Try.underlying63 rfl rfl ?_) |  fail)
  refine (HGN.out _).mono ?_
  rintro _ wf ⟨rfl, hb⟩
  replace HB := hid (Grow.trans HB.out hb)
  replace P := hid (grow_block P.out hb)
  replace Z := hid (grow_block Z.out hb)
  clear hb
  go_wp2_with (first | (refine opG_loadB rfl rfl rfl P.out Try.underlying63 rfl rfl ?_) | (refine op_allocC (z := undef) (cs := #[.string ByteArray.empty, .int .i64 0, .int .i64 0]) rfl rfl (fun _ => by kernel_rfl) ?_) | fail)
  intro gx w3 hgl hgu hb hr
  have XL := hid (Nat.le_trans HB.out.size hgl)
  have nP_X := Nat.lt_of_lt_of_le (Array.getElem?_eq_some_iff.1 P.out).1 hgl
  have nZ_X := Nat.lt_of_lt_of_le (Array.getElem?_eq_some_iff.1 Z.out).1 hgl
  replace HB := hid (Grow.trans HB.out hb)
  replace P := hid (grow_block P.out hb)
  replace Z := hid (grow_block Z.out hb)
  have X := hid hr
  clear hr hgl hgu hb
  try simp only [Act.put, List.setIfInBounds_toArray, List.set_cons_zero, List.set_cons_succ]
  go_wp2_with (first | (refine opG_loadB rfl rfl rfl P.out Try.underlying63 rfl rfl ?_) | (refine store_block 63 _ _ gx 0 (rgL L q e) (rgL [] 0 0) (rgL L q e) 63 rfl rfl rfl rfl rfl X.out (infoRgL _ _ _) (by simp) (oneRg _ _ _) rfl ?_) | fail)
  intro w4 hW hgr hbel
  replace P := hid (blk_other' hgr P.out (fun e => by have := Option.some.inj e; omega))
  replace Z := hid (blk_other' hgr Z.out (fun e => by have := Option.some.inj e; omega))
  replace HB := hid (show Grow w w4 from hbel _ _ HB.out XL.out)
  replace X := hid (show w4.heap[gx]? = some (.cells (rgL L q e : List Value).toArray 63 (0, 0)) from hW)
  clear hW hgr hbel
  by_cases h : e = 0 ∧ (most : Int) < v
  · obtain ⟨h1, h2⟩ := h
    subst h1
    have HH := hid h2
    go_wp2_with (first | (refine opG_load1 (i := 2) (v := .int .i64 0) rfl rfl rfl X.out rfl Try.underlying3 rfl ?_) | (refine opG_loadB rfl rfl rfl P.out Try.underlying63 rfl rfl ?_) | fail)
    refine (refFail05 L p 4 _).mono ?_
    rintro _ wg ⟨rfl, hb⟩
    replace HB := hid (Grow.trans HB.out hb)
    replace P := hid (grow_block P.out hb)
    replace Z := hid (grow_block Z.out hb)
    replace X := hid (grow_block X.out hb)
    clear hb
    go_wp2_with (first | (refine opG_loadB rfl rfl rfl P.out Try.underlying63 rfl rfl ?_) | (refine store_block 63 _ _ gz 0 (rgL L p 4) (rgL [] 0 0) (rgL L p 4) 63 rfl rfl rfl rfl rfl Z.out (infoRgL _ _ _) (by simp) (oneRg _ _ _) rfl ?_) | fail)
    intro w5 hW hgr hbel
    replace P := hid (blk_other' hgr P.out (fun e => by have := Option.some.inj e; omega))
    replace X := hid (blk_other' hgr X.out (fun e => by have := Option.some.inj e; omega))
    replace HB := hid (show Grow w w5 from hbel _ _ HB.out ZL.out)
    replace Z := hid (show w5.heap[gz]? = some (.cells (rgL L p 4 : List Value).toArray 63 (0, 0)) from hW)
    clear hW hgr hbel
    go_wp2_with fail
    refine bodyPost_ret (ret_rgt rfl rfl Z.out rfl) rfl ⟨p, 4, 0, rfl, (by first | exact .inl ⟨rfl, HH.out, rfl, rfl, rfl⟩ | exact ⟨rfl, rfl, rfl⟩), HB.out⟩
  · skip
    have HH := hid h
    have hc : ((e == 0) = true ∧ ¬ (most : Int) < v) ∨ (e == 0) = false := by
      by_cases h0 : e = 0
      · left; exact ⟨by simp [h0], fun h2 => h ⟨h0, h2⟩⟩
      · right; simp [h0]
    clear h
    have HC := hid hc
    clear hc
    rcases HC.out with ⟨h1, h2⟩ | h1
    · skip
      go_wp2_with (first | (refine opG_load1 (i := 2) (v := .int .i64 e) rfl rfl rfl X.out rfl Try.underlying3 rfl ?_) | (refine opG_loadB rfl rfl rfl P.out Try.underlying63 rfl rfl ?_) | (refine opG_loadB rfl rfl rfl X.out Try.underlying63 rfl rfl ?_) | (refine store_block 63 _ _ gz 0 (rgL L q e) (rgL [] 0 0) (rgL L q e) 63 rfl rfl rfl rfl rfl Z.out (infoRgL _ _ _) (by simp) (oneRg _ _ _) rfl ?_) | fail)
      intro w6 hW hgr hbel
      replace P := hid (blk_other' hgr P.out (fun e => by have := Option.some.inj e; omega))
      replace X := hid (blk_other' hgr X.out (fun e => by have := Option.some.inj e; omega))
      replace HB := hid (show Grow w w6 from hbel _ _ HB.out ZL.out)
      replace Z := hid (show w6.heap[gz]? = some (.cells (rgL L q e : List Value).toArray 63 (0, 0)) from hW)
      clear hW hgr hbel
      go_wp2_with fail
      refine bodyPost_ret (ret_rgt rfl rfl Z.out rfl) rfl ⟨q, e, v, rfl, .inr ⟨HH.out, rfl, rfl, rfl⟩, HB.out⟩
    · skip
      go_wp2_with (first | (refine opG_load1 (i := 2) (v := .int .i64 e) rfl rfl rfl X.out rfl Try.underlying3 rfl ?_) | (refine opG_loadB rfl rfl rfl P.out Try.underlying63 rfl rfl ?_) | (refine opG_loadB rfl rfl rfl X.out Try.underlying63 rfl rfl ?_) | (refine store_block 63 _ _ gz 0 (rgL L q e) (rgL [] 0 0) (rgL L q e) 63 rfl rfl rfl rfl rfl Z.out (infoRgL _ _ _) (by simp) (oneRg _ _ _) rfl ?_) | fail)
      intro w7 hW hgr hbel
      replace P := hid (blk_other' hgr P.out (fun e => by have := Option.some.inj e; omega))
      replace X := hid (blk_other' hgr X.out (fun e => by have := Option.some.inj e; omega))
      replace HB := hid (show Grow w w7 from hbel _ _ HB.out ZL.out)
      replace Z := hid (show w7.heap[gz]? = some (.cells (rgL L q e : List Value).toArray 63 (0, 0)) from hW)
      clear hW hgr hbel
      go_wp2_with fail
      refine bodyPost_ret (ret_rgt rfl rfl Z.out rfl) rfl ⟨q, e, v, rfl, .inr ⟨HH.out, rfl, rfl, rfl⟩, HB.out⟩
theorem refSome05 (L : List UInt8) (p p0 n : Nat) (hp : p ≤ L.length) (hL : L.length ≤ 1000000000) (hn : n ≤ 4611686018427387904) (w : World) :
    Calls Try.prog 179 #[rgV L p 0, .int .i64 (p0 : Int), .int .i64 (n : Int)] w fun r w' => r = .returned (.tuple (if n ≤ L.length - p then #[rgV L (p + n) 0, .string (bs ((L.drop p).take n))] else #[rgV L p0 2, .string ByteArray.empty])) ∧ Below w.heap.size w w' := by
  have hsz := bs_size L
  have wsub : IntKind.i64.wrap ((L.length : Int) - (p : Int)) = (L.length : Int) - (p : Int) := IntWalk.i64_in _ (by omega)
  by_cases h : n ≤ L.length - p
  · rw [if_pos h]
    have hgt : ¬ (L.length : Int) - (p : Int) < (n : Int) := by omega
    have q0 : (0 : Int) ≤ (p : Int) := by omega
    have q1 : (0 : Int) ≤ (p : Int) + (n : Int) := by omega
    have q2 : (p : Int) + (n : Int) ≤ (L.length : Int) := by omega
    have q3 : (p : Int) ≤ (p : Int) + (n : Int) := by omega
    have q4 : ((p : Int) + (n : Int)).toNat = p + n := by omega
    have wadd : IntKind.i64.wrap ((p : Int) + (n : Int)) = (p : Int) + (n : Int) := IntWalk.i64_in _ (by omega)
    have hex : (bs L).extract p (p + n) = bs ((L.drop p).take n) := by rw [bs_extract, Nat.add_sub_cancel_left]
    have hH := hid h
    clear h
    go_enter Try.func179, Try.ntmps179
    have HB := hid (grow_refl w)
    apply wp_seq_k; intro _ _; apply wp_region_lit
    go_wp2_with (first | (refine op_boxC (cs := #[.string (bs L), .int .i64 (p : Int), .int .i64 0]) rfl rfl rfl rfl ?_) | fail)
    intro gp w1 hgl hgu hb hr
    have PL := hid (Nat.le_trans HB.out.size hgl)
    replace HB := hid (Grow.trans HB.out hb)
    have P := hid hr
    clear hr hgl hgu hb
    try simp only [Act.put, List.setIfInBounds_toArray, List.set_cons_zero, List.set_cons_succ]
    go_wp2_with (first | (refine op_allocC (z := undef) (cs := #[.string ByteArray.empty, .int .i64 0, .int .i64 0]) rfl rfl (fun _ => by kernel_rfl) ?_) | fail)
    intro gz w2 hgl hgu hb hr
    have ZL := hid (Nat.le_trans HB.out.size hgl)
    have nP_Z := Nat.lt_of_lt_of_le (Array.getElem?_eq_some_iff.1 P.out).1 hgl
    replace HB := hid (Grow.trans HB.out hb)
    replace P := hid (grow_block P.out hb)
    have Z := hid hr
    clear hr hgl hgu hb
    try simp only [Act.put, List.setIfInBounds_toArray, List.set_cons_zero, List.set_cons_succ]
    go_wp2_with (first | (refine opG_load1 (i := 0) (v := (.string (bs L))) rfl rfl rfl P.out rfl Try.underlying9 rfl ?_) | (refine opG_load1 (i := 1) (v := (.int .i64 (p : Int))) rfl rfl rfl P.out rfl Try.underlying3 rfl ?_) | (refine opG_load1 (i := 2) (v := (.int .i64 0)) rfl rfl rfl P.out rfl Try.underlying3 rfl ?_) | (refine op_store1 (g := gp) (i := 1) (v := .int .i64 ((p + n : Nat) : Int)) rfl rfl rfl rfl (by first | rfl | (go_simp; done) | (go_simp; rfl)) P.out rfl rfl (infoInt') (by simp) ?_) | fail)
    intro w3 hW hgr hbel
    replace Z := hid (blk_other' hgr Z.out (fun e => by have := Option.some.inj e; omega))
    replace HB := hid (show Grow w w3 from hbel _ _ HB.out PL.out)
    replace P := hid (show w3.heap[gp]? = some (rgOb L (p + n) 0) from hW)
    clear hW hgr hbel
    go_wp2_with (first | (refine opG_loadB rfl rfl rfl P.out Try.underlying63 rfl rfl ?_) | (refine store_block 63 _ _ gz 0 (rgL L (p + n) 0) (rgL [] 0 0) (rgL L (p + n) 0) 63 rfl rfl rfl rfl rfl Z.out (infoRgL _ _ _) (by simp) (oneRg _ _ _) rfl ?_) | fail)
    intro w4 hW hgr hbel
    replace P := hid (blk_other' hgr P.out (fun e => by have := Option.some.inj e; omega))
    replace HB := hid (show Grow w w4 from hbel _ _ HB.out ZL.out)
    replace Z := hid (show w4.heap[gz]? = some (.cells (rgL L (p + n) 0 : List Value).toArray 63 (0, 0)) from hW)
    clear hW hgr hbel
    go_wp2_with fail
    refine bodyPost_ret (ret_rgt rfl rfl Z.out rfl) rfl ⟨rfl, HB.out⟩
  · rw [if_neg h]
    have hgt : (L.length : Int) - (p : Int) < (n : Int) := by omega
    go_enter Try.func179, Try.ntmps179
    have HB := hid (grow_refl w)
    apply wp_seq_k; intro _ _; apply wp_region_lit
    go_wp2_with (first | (refine op_boxC (cs := #[.string (bs L), .int .i64 (p : Int), .int .i64 0]) rfl rfl rfl rfl ?_) | fail)
    intro gp w5 hgl hgu hb hr
    have PL := hid (Nat.le_trans HB.out.size hgl)
    replace HB := hid (Grow.trans HB.out hb)
    have P := hid hr
    clear hr hgl hgu hb
    try simp only [Act.put, List.setIfInBounds_toArray, List.set_cons_zero, List.set_cons_succ]
    go_wp2_with (first | (refine opG_loadB rfl rfl rfl P.out Try.underlying63 rfl rfl ?_) | (refine op_allocC (z := undef) (cs := #[.string ByteArray.empty, .int .i64 0, .int .i64 0]) rfl rfl (fun _ => by kernel_rfl) ?_) | fail)
    intro gz w6 hgl hgu hb hr
    have ZL := hid (Nat.le_trans HB.out.size hgl)
    have nP_Z := Nat.lt_of_lt_of_le (Array.getElem?_eq_some_iff.1 P.out).1 hgl
    replace HB := hid (Grow.trans HB.out hb)
    replace P := hid (grow_block P.out hb)
    have Z := hid hr
    clear hr hgl hgu hb
    try simp only [Act.put, List.setIfInBounds_toArray, List.set_cons_zero, List.set_cons_succ]
    go_wp2_with (first | (refine opG_load1 (i := 0) (v := (.string (bs L))) rfl rfl rfl P.out rfl Try.underlying9 rfl ?_) | (refine opG_load1 (i := 1) (v := (.int .i64 (p : Int))) rfl rfl rfl P.out rfl Try.underlying3 rfl ?_) | (refine opG_load1 (i := 2) (v := (.int .i64 0)) rfl rfl rfl P.out rfl Try.underlying3 rfl ?_) | (refine opG_loadB rfl rfl rfl P.out Try.underlying63 rfl rfl ?_) | (refine op_store1 (g := gp) (i := 1) (v := .int .i64 (p0 : Int)) rfl rfl rfl rfl (by first | rfl | (go_simp; done) | (go_simp; rfl)) P.out rfl rfl (infoInt') (by simp) ?_) | fail)
    intro w7 hW hgr hbel
    replace Z := hid (blk_other' hgr Z.out (fun e => by have := Option.some.inj e; omega))
    replace HB := hid (show Grow w w7 from hbel _ _ HB.out PL.out)
    replace P := hid (show w7.heap[gp]? = some (rgOb L p0 0) from hW)
    clear hW hgr hbel
    go_wp2_with (first | (refine opG_loadB rfl rfl rfl P.out Try.underlying63 rfl rfl ?_) | (refine opG_loadB rfl rfl rfl P.out Try.underlying63 rfl rfl ?_) |  fail)
    refine (refFail05 L p0 2 _).mono ?_
    rintro _ wg ⟨rfl, hb⟩
    replace HB := hid (Grow.trans HB.out hb)
    replace P := hid (grow_block P.out hb)
    replace Z := hid (grow_block Z.out hb)
    clear hb
    go_wp2_with (first | (refine opG_loadB rfl rfl rfl P.out Try.underlying63 rfl rfl ?_) | (refine opG_loadB rfl rfl rfl P.out Try.underlying63 rfl rfl ?_) | (refine store_block 63 _ _ gz 0 (rgL L p0 2) (rgL [] 0 0) (rgL L p0 2) 63 rfl rfl rfl rfl rfl Z.out (infoRgL _ _ _) (by simp) (oneRg _ _ _) rfl ?_) | fail)
    intro w8 hW hgr hbel
    replace P := hid (blk_other' hgr P.out (fun e => by have := Option.some.inj e; omega))
    replace HB := hid (show Grow w w8 from hbel _ _ HB.out ZL.out)
    replace Z := hid (show w8.heap[gz]? = some (.cells (rgL L p0 2 : List Value).toArray 63 (0, 0)) from hW)
    clear hW hgr hbel
    go_wp2_with fail
    refine bodyPost_ret (ret_rgt rfl rfl Z.out rfl) rfl ⟨rfl, HB.out⟩
theorem refGetText05 (L : List UInt8) (p most : Nat) (hp : p ≤ L.length) (hL : L.length ≤ 1000000000) (w : World) :
    Calls Try.prog 119 #[rgV L p 0, .int .i64 (most : Int)] w fun r w' => r = .returned (.tuple #[rgV L (textR L p most).2.1 (textR L p most).2.2, .string (bs (textR L p most).1)]) ∧ Below w.heap.size w w' := by
  have HCN := hid (fun w => refCount05 L p most hp hL w)
  have hle := posR_le hp
  go_enter Try.func119, Try.ntmps119
  have HB := hid (grow_refl w)
  apply wp_seq_k; intro _ _; apply wp_region_lit
  go_wp2_with (first | (refine op_boxC (cs := #[.string (bs L), .int .i64 (p : Int), .int .i64 0]) rfl rfl rfl rfl ?_) | fail)
  intro gp w1 hgl hgu hb hr
  have PL := hid (Nat.le_trans HB.out.size hgl)
  replace HB := hid (Grow.trans HB.out hb)
  have P := hid hr
  clear hr hgl hgu hb
  try simp only [Act.put, List.setIfInBounds_toArray, List.set_cons_zero, List.set_cons_succ]
  go_wp2_with (first | (refine op_allocC (z := undef) (cs := #[.string ByteArray.empty, .int .i64 0, .int .i64 0]) rfl rfl (fun _ => by kernel_rfl) ?_) | fail)
  intro gz w2 hgl hgu hb hr
  have ZL := hid (Nat.le_trans HB.out.size hgl)
  have nP_Z := Nat.lt_of_lt_of_le (Array.getElem?_eq_some_iff.1 P.out).1 hgl
  replace HB := hid (Grow.trans HB.out hb)
  replace P := hid (grow_block P.out hb)
  have Z := hid hr
  clear hr hgl hgu hb
  try simp only [Act.put, List.setIfInBounds_toArray, List.set_cons_zero, List.set_cons_succ]
  go_wp2_with (first | (refine opG_loadB rfl rfl rfl P.out Try.underlying63 rfl rfl ?_) |  fail)
  refine (HCN.out _).mono ?_
  rintro _ wf ⟨p1, e1, v1, rfl, hcase, hb⟩
  replace HB := hid (Grow.trans HB.out hb)
  replace P := hid (grow_block P.out hb)
  replace Z := hid (grow_block Z.out hb)
  clear hb
  go_wp2_with (first | (refine opG_loadB rfl rfl rfl P.out Try.underlying63 rfl rfl ?_) | (refine op_allocC (z := undef) (cs := #[.string ByteArray.empty, .int .i64 0, .int .i64 0]) rfl rfl (fun _ => by kernel_rfl) ?_) | fail)
  intro gx w3 hgl hgu hb hr
  have XL := hid (Nat.le_trans HB.out.size hgl)
  have nP_X := Nat.lt_of_lt_of_le (Array.getElem?_eq_some_iff.1 P.out).1 hgl
  have nZ_X := Nat.lt_of_lt_of_le (Array.getElem?_eq_some_iff.1 Z.out).1 hgl
  replace HB := hid (Grow.trans HB.out hb)
  replace P := hid (grow_block P.out hb)
  replace Z := hid (grow_block Z.out hb)
  have X := hid hr
  clear hr hgl hgu hb
  try simp only [Act.put, List.setIfInBounds_toArray, List.set_cons_zero, List.set_cons_succ]
  go_wp2_with (first | (refine opG_loadB rfl rfl rfl P.out Try.underlying63 rfl rfl ?_) | (refine store_block 63 _ _ gx 0 (rgL L p1 e1) (rgL [] 0 0) (rgL L p1 e1) 63 rfl rfl rfl rfl rfl X.out (infoRgL _ _ _) (by simp) (oneRg _ _ _) rfl ?_) | fail)
  intro w4 hW hgr hbel
  replace P := hid (blk_other' hgr P.out (fun e => by have := Option.some.inj e; omega))
  replace Z := hid (blk_other' hgr Z.out (fun e => by have := Option.some.inj e; omega))
  replace HB := hid (show Grow w w4 from hbel _ _ HB.out XL.out)
  replace X := hid (show w4.heap[gx]? = some (.cells (rgL L p1 e1 : List Value).toArray 63 (0, 0)) from hW)
  clear hW hgr hbel
  by_cases he : e1 = 0
  · subst he
    rcases hcase with ⟨_, _, _, h4, _⟩ | ⟨h1, rfl, h2, rfl⟩
    · exact absurd h4 (by decide)
    · cases hR : numR L p with
      | short => rw [hR] at h2; exact absurd h2 (by decide)
      | form => rw [hR] at h2; exact absurd h2 (by decide)
      | ok v k =>
        rw [hR] at h1 hle X
        have hm : ¬ most < v := fun h => h1 ⟨rfl, by show (most : Int) < (v : Int); omega⟩
        have hv : v ≤ 4611686018427387904 := by have := hle.2.2; change (v : Int) ≤ _ at this; omega
        have HTX := hid (show textR L p most = if v ≤ L.length - (p + k) then ((L.drop (p + k)).take v, p + k + v, 0) else ([], p, 2) by unfold textR; rw [hR]; dsimp only; rw [if_neg hm])
        have HSM := hid (fun w => refSome05 L (p + k) p v hle.1 hL hv w)
        replace X := hid (show _ = some (rgOb L (p + k) 0) from X.out)
        rw [show valR (.ok v k) = (v : Int) from rfl, show posR p (.ok v k) = p + k from rfl]
        clear h1 hle hm h2 hR
        go_wp2_with (first | (refine opG_load1 (i := 2) (v := .int .i64 0) rfl rfl rfl X.out rfl Try.underlying3 rfl ?_) | (refine opG_load1 (i := 1) (v := .int .i64 (p : Int)) rfl rfl rfl P.out rfl Try.underlying3 rfl ?_) | (refine opG_loadB rfl rfl rfl X.out Try.underlying63 rfl rfl ?_) | fail)
        refine (HSM.out _).mono ?_
        rintro _ wg ⟨rfl, hb⟩
        replace HB := hid (Grow.trans HB.out hb)
        replace P := hid (grow_block P.out hb)
        replace Z := hid (grow_block Z.out hb)
        replace X := hid (grow_block X.out hb)
        clear hb
        by_cases hv2 : v ≤ L.length - (p + k)
        · rw [if_pos hv2]
          have HT2 := HTX
          rw [if_pos hv2] at HT2
          go_wp2_with (first | (refine opG_loadB rfl rfl rfl P.out Try.underlying63 rfl rfl ?_) | (refine store_block 63 _ _ gz 0 (rgL L (p + k + v) 0) (rgL [] 0 0) (rgL L (p + k + v) 0) 63 rfl rfl rfl rfl rfl Z.out (infoRgL _ _ _) (by simp) (oneRg _ _ _) rfl ?_) | fail)
          intro w5 hW hgr hbel
          replace P := hid (blk_other' hgr P.out (fun e => by have := Option.some.inj e; omega))
          replace X := hid (blk_other' hgr X.out (fun e => by have := Option.some.inj e; omega))
          replace HB := hid (show Grow w w5 from hbel _ _ HB.out ZL.out)
          replace Z := hid (show w5.heap[gz]? = some (.cells (rgL L (p + k + v) 0 : List Value).toArray 63 (0, 0)) from hW)
          clear hW hgr hbel
          go_wp2_with fail
          refine bodyPost_ret (ret_rgt rfl rfl Z.out rfl) rfl ⟨?_, HB.out⟩
          rw [HT2.out]; rfl
        · rw [if_neg hv2]
          have HT2 := HTX
          rw [if_neg hv2] at HT2
          go_wp2_with (first | (refine opG_loadB rfl rfl rfl P.out Try.underlying63 rfl rfl ?_) | (refine store_block 63 _ _ gz 0 (rgL L p 2) (rgL [] 0 0) (rgL L p 2) 63 rfl rfl rfl rfl rfl Z.out (infoRgL _ _ _) (by simp) (oneRg _ _ _) rfl ?_) | fail)
          intro w6 hW hgr hbel
          replace P := hid (blk_other' hgr P.out (fun e => by have := Option.some.inj e; omega))
          replace X := hid (blk_other' hgr X.out (fun e => by have := Option.some.inj e; omega))
          replace HB := hid (show Grow w w6 from hbel _ _ HB.out ZL.out)
          replace Z := hid (show w6.heap[gz]? = some (.cells (rgL L p 2 : List Value).toArray 63 (0, 0)) from hW)
          clear hW hgr hbel
          go_wp2_with fail
          refine bodyPost_ret (ret_rgt rfl rfl Z.out rfl) rfl ⟨?_, HB.out⟩
          rw [HT2.out]; rfl
  · have HTX := hid (show textR L p most = ([], p, e1) by
      unfold textR
      rcases hcase with ⟨h1, h2, h3, rfl, h5⟩ | ⟨h1, h3, rfl, h5⟩
      · cases hR : numR L p with
        | short => rw [hR] at h1; exact absurd h1 (by decide)
        | form => rw [hR] at h1; exact absurd h1 (by decide)
        | ok v k =>
          rw [hR] at h2
          change (most : Int) < (v : Int) at h2
          dsimp only
          rw [if_pos (by omega)]
      · cases hR : numR L p with
        | short => rfl
        | form => rfl
        | ok v k => rw [hR] at he; exact absurd rfl he)
    have hne : (e1 != 0) = true := by simp [he]
    clear hcase he hle
    go_wp2_with (first | (refine opG_load1 (i := 2) (v := .int .i64 e1) rfl rfl rfl X.out rfl Try.underlying3 rfl ?_) | (refine opG_load1 (i := 1) (v := .int .i64 (p : Int)) rfl rfl rfl P.out rfl Try.underlying3 rfl ?_) | (refine opG_loadB rfl rfl rfl P.out Try.underlying63 rfl rfl ?_) | (refine op_store1 (g := gx) (i := 1) (v := .int .i64 (p : Int)) rfl rfl rfl rfl (by first | rfl | (go_simp; done) | (go_simp; rfl)) X.out rfl rfl (infoInt') (by simp) ?_) | fail)
    intro w7 hW hgr hbel
    replace P := hid (blk_other' hgr P.out (fun e => by have := Option.some.inj e; omega))
    replace Z := hid (blk_other' hgr Z.out (fun e => by have := Option.some.inj e; omega))
    replace HB := hid (show Grow w w7 from hbel _ _ HB.out XL.out)
    replace X := hid (show w7.heap[gx]? = some (rgOb L p e1) from hW)
    clear hW hgr hbel
    go_wp2_with (first | (refine opG_loadB rfl rfl rfl P.out Try.underlying63 rfl rfl ?_) | (refine opG_loadB rfl rfl rfl X.out Try.underlying63 rfl rfl ?_) | (refine store_block 63 _ _ gz 0 (rgL L p e1) (rgL [] 0 0) (rgL L p e1) 63 rfl rfl rfl rfl rfl Z.out (infoRgL _ _ _) (by simp) (oneRg _ _ _) rfl ?_) | fail)
    intro w8 hW hgr hbel
    replace P := hid (blk_other' hgr P.out (fun e => by have := Option.some.inj e; omega))
    replace X := hid (blk_other' hgr X.out (fun e => by have := Option.some.inj e; omega))
    replace HB := hid (show Grow w w8 from hbel _ _ HB.out ZL.out)
    replace Z := hid (show w8.heap[gz]? = some (.cells (rgL L p e1 : List Value).toArray 63 (0, 0)) from hW)
    clear hW hgr hbel
    go_wp2_with fail
    refine bodyPost_ret (ret_rgt rfl rfl Z.out rfl) rfl ⟨?_, HB.out⟩
    rw [HTX.out]; rfl
end Go.Proofs.Ytabkaflccaklhaa
