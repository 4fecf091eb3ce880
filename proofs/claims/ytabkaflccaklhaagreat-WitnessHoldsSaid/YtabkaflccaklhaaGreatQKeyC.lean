/- slices.Clone at rows of ids, keytree.Fold: contracts. -/
import Derived.Test.YtabkaflccaklhaaGreatQKeyA
import Derived.Test.YtabkaflccaklhaaGreatQRowR
import Derived.WalkSpells
set_option linter.unusedSimpArgs false
set_option linter.unusedVariables false
namespace Go.Proofs.YtabkaflccaklhaaGreat
open Go.RowKit
open Go.Qk hiding rotr b4
set_option maxHeartbeats 1000000
set_option maxRecDepth 100000
theorem idsClone (A : Option Addr) (n c : Nat) (xs : List IdK) (w : World) (hx : IdRow w A xs) (hn : xs.length = n) (h32 : ∀ s ∈ xs, s.length = 32) (hmax : n ≤ 1000000) :
    Calls Tryz.prog 157 #[.slice A n c] w (RetIds w.heap.size w xs) := by
  subst hn
  have HX := hid hx
  have H32 := hid h32
  clear hx h32
  cases A with
  | none =>
    have hxs : xs = [] := by
      by_cases e : xs = []
      · exact e
      · obtain ⟨_, e2, _⟩ := HX.out.2 e
        cases e2
    subst hxs
    have hnil : ∀ w, (Go.binOp .eql 56 (.slice none 0 c) (.slice none 0 0)).run Tryz.prog w = .ok (.bool true) w := fun w => Lib.run_eql_slice_nil w _ _ none 0 c 0 0 Tryz.underlying56
    go_enter Tryz.func157, Tryz.ntmps157
    have HB := hid (grow_refl w)
    go_wp2_with fail
    go_ret
    exact ⟨_, rfl, ⟨World.ownsRow_nil _ _ _ _, fun _ h => by cases h⟩, HB.out⟩
  | some ad =>
    have hnil : ∀ w, (Go.binOp .eql 56 (.slice (some ad) xs.length c) (.slice none 0 0)).run Tryz.prog w = .ok (.bool false) w := fun w => Lib.run_eql_slice_nil w _ _ (some ad) xs.length c 0 0 Tryz.underlying56
    go_enter Tryz.func157, Tryz.ntmps157
    have HB := hid (grow_refl w)
    go_wp2_with (refine op_appRow (w0 := w) (ys := []) (xs := xs) rfl rfl rfl rfl (empty_own w w.heap.size (Nat.le_refl _)) (HX.out.grow (grow_alloc _ _)) H32.out (grow_alloc _ _) (by simp) (by simp; omega) ?_)
    intro v w1 ho hb hs
    have HO := hid ho
    have HB1 := hid hb
    clear ho hb hs hnil
    go_wp2_with fail
    go_ret
    exact ⟨_, rfl, by simpa using HO.out, HB1.out⟩
def rowsTo (k : Nat) (xs : List IdK) : List (List IdK) := (List.range (k + 1)).map fun i => upN i xs
theorem rowsTo_succ (k : Nat) (xs : List IdK) : rowsTo (k + 1) xs = rowsTo k xs ++ [upN (k + 1) xs] := by simp [rowsTo, List.range_succ]
theorem rowsTo_length (k : Nat) (xs : List IdK) : (rowsTo k xs).length = k + 1 := by simp [rowsTo]
theorem foldRows_eq (h : Nat) (xs : List IdK) : foldRows h xs = rowsTo h xs := by
  apply List.ext_getElem
  · rw [foldRows_length, rowsTo_length]
  · intro i h1 h2
    have hi : i ≤ h := by rw [foldRows_length] at h1; omega
    have e := foldRows_get h xs i hi
    rw [List.getD_eq_getElem?_getD, List.getElem?_eq_getElem h1] at e
    simpa [rowsTo] using e
theorem andF : ∀ h : Fin 11, bits .and .i64 ((2 ^ h.val : Nat) : Int) (((2 ^ h.val : Nat) : Int) - 1) = 0 := by decide +kernel
theorem and_pow (n h : Nat) (hn : n = 2 ^ h) (hh : h ≤ 10) : bits .and .i64 (n : Int) ((n : Int) - 1) = 0 := by subst hn; exact andF ⟨h, by omega⟩
theorem ktFold_bad (A : Option Addr) (n c : Nat) (w : World) (hn : n = 0 ∨ bits .and .i64 (n : Int) ((n : Int) - 1) ≠ 0) (hmax : n ≤ 1000000) :
    Calls Tryz.prog 138 #[.slice A n c] w fun e w' => e = .returned (.tuple #[idV (zero8 32), .slice none 0 0]) ∧ Below w.heap.size w w' := by
  by_cases h0 : n = 0
  · have t1 : ((n : Int) == 0) = true := by simp; omega
    clear hn h0
    go_enter Tryz.func138, Tryz.ntmps138
    apply wp_seq_k; intro _ _; apply wp_region_lit
    refine op_alloc rfl rfl ?_
    intro gr W hgl hgu hb hr
    have HR := hid hr; have HB := hid hb; have HRL := hid hgl; have HRU := hid hgu
    clear hr hb hgl hgu
    try simp only [Act.put, List.setIfInBounds_toArray, List.set_cons_zero, List.set_cons_succ]
    go_wp2_with (first |  (refine op_buildId rfl rfl ?_) | (refine op_storeId (l := zero8 32) rfl rfl rfl rfl rfl HR.out (by rfl) (rfl) ?_))
    intro wz hz _ hbz
    have HZ := hid hz; have HBZ := hid (hbz _ _ HB.out HRL.out)
    clear hz hbz
    go_wp2_with fail
    refine bodyPost_ret (ret_idt rfl rfl HZ.out (rfl)) rfl ⟨?_, HBZ.out⟩
    rfl
  · have t1 : ((n : Int) == 0) = false := by simp; omega
    have hn' : bits .and .i64 (n : Int) ((n : Int) - 1) ≠ 0 := by rcases hn with h | h; exact absurd h h0; exact h
    have t2 : (bits .and .i64 (n : Int) ((n : Int) - 1) != 0) = true := by simpa using hn'
    clear hn
    have n1 : 1 ≤ (n : Int) := by omega
    clear h0 hn'
    go_enter Tryz.func138, Tryz.ntmps138
    apply wp_seq_k; intro _ _; apply wp_region_lit
    refine op_alloc rfl rfl ?_
    intro gr W hgl hgu hb hr
    have HR := hid hr; have HB := hid hb; have HRL := hid hgl; have HRU := hid hgu
    clear hr hb hgl hgu
    try simp only [Act.put, List.setIfInBounds_toArray, List.set_cons_zero, List.set_cons_succ]
    go_wp2_with (first |  (refine op_buildId rfl rfl ?_) | (refine op_storeId (l := zero8 32) rfl rfl rfl rfl rfl HR.out (by rfl) (rfl) ?_))
    intro wz hz _ hbz
    have HZ := hid hz; have HBZ := hid (hbz _ _ HB.out HRL.out)
    clear hz hbz
    go_wp2_with fail
    refine bodyPost_ret (ret_idt rfl rfl HZ.out (rfl)) rfl ⟨?_, HBZ.out⟩
    rfl
def RetFold (B : Nat) (w : World) (root : IdK) (rows : List (List IdK)) (e : Ending) (w' : World) : Prop := ∃ v, e = .returned (.tuple #[idV root, v]) ∧ OwnRows B w' v rows ∧ Below w.heap.size w w'
theorem ktFold (A : Option Addr) (n c h : Nat) (xs : List IdK) (w : World) (hx : IdRow w A xs) (hn : xs.length = n) (hp : n = 2 ^ h) (hh : h ≤ 10) (h32 : ∀ s ∈ xs, s.length = 32) :
    Calls Tryz.prog 138 #[.slice A n c] w (RetFold w.heap.size w (foldTop h xs) (foldRows h xs)) := by
  have hle : 2 ^ h ≤ 2 ^ 10 := Nat.pow_le_pow_right (by omega) hh
  have hpos : 0 < 2 ^ h := Nat.pow_pos (by omega)
  have n1 : 1 ≤ (n : Int) := by omega
  have n2 : (n : Int) ≤ 1024 := by omega
  have t1 : ((n : Int) == 0) = false := by simp; omega
  have t2 : bits .and .i64 (n : Int) ((n : Int) - 1) = 0 := and_pow n h hp hh
  have HX := hid hx
  have H32 := hid h32
  have HP := hid hp
  have HN := hid hn
  have HTL := hid (foldTop_32 h xs (by rw [hn, hp]) h32)
  have HFR := hid (foldRows_eq h xs)
  clear hx h32 hp hn hle hpos
  go_enter Tryz.func138, Tryz.ntmps138
  apply wp_seq_k; intro _ _; apply wp_region_lit
  refine op_alloc rfl rfl ?_
  intro gr W hgl hgu hb hr
  have HR := hid hr; have HB := hid hb; have HRL := hid hgl; have HRU := hid hgu
  clear hr hb hgl hgu
  try simp only [Act.put, List.setIfInBounds_toArray, List.set_cons_zero, List.set_cons_succ]
  go_wp2_with fail
  refine (idsClone A n c xs W (HX.out.grow HB.out) HN.out H32.out (by omega)).mono ?_
  rintro e w1 ⟨v0, rfl, ho, hb⟩
  have HS1 := hid hb.size
  replace HR := hid (grow_block HR.out hb)
  replace HB := hid (Grow.trans HB.out hb)
  clear hb
  have HO := hid ho
  clear ho t1 t2
  go_wp2_with (refine op_row1V (bytes := 24) (z := .slice none 0 0) (u := v0) rfl rfl rfl Tryz.underlying148 infoIds rfl ?hu ?_)
  case hu => obtain ⟨⟨A0, c0, rfl, _⟩, _⟩ := HO.out.sl; rfl
  intro v4 w2 hown hb hlt
  have HRW := hid (show OwnRows W.heap.size w2 v4 (rowsTo 0 xs) from ⟨[v0], rfl, own_base hown HS1.out, fun i hi => by
    obtain rfl : i = 0 := by simp [rowsTo] at hi; omega
    exact HO.out.grow hb⟩)
  replace HO := hid (HO.out.grow hb)
  have HW1 := hid (Nat.le_trans HS1.out (show w1.heap.size ≤ w2.heap.size from hb.size))
  replace HR := hid (grow_block HR.out hb)
  replace HB := hid (Grow.trans HB.out hb)
  clear hb
  clear hown hlt
  go_wp2_with fail
  have HGB : Hid (w.heap.size ≤ W.heap.size) := hid (Nat.le_trans HRL.out (Nat.le_of_lt HRU.out))
  obtain ⟨⟨A0, c0, rfl, _⟩, _⟩ := HO.out.sl
  go_loopg [0, 4] (h + 1) (fun z v0 v4 wr => ∃ k m A0 c0, k ≤ h ∧ z = h + 1 - k ∧ v0 = .slice A0 m c0 ∧ Hid (m = 2 ^ (h - k)) ∧ Hid (OwnIds 42 W.heap.size wr (.slice A0 m c0) (upN k xs)) ∧ Hid (OwnRows W.heap.size wr v4 (rowsTo k xs)) ∧ Hid (wr.heap[gr]? = some (.cells (u8s (zero8 32)).toArray 42 (0, 0))) ∧ Hid (Grow w wr) ∧ Hid (W.heap.size ≤ wr.heap.size))
  case atStart => exact ⟨0, _, A0, c0, by omega, rfl, rfl, hid (by rw [HN.out, HP.out]; rfl), HO, HRW, HR, HB, HW1⟩
  case round =>
    clear HO HRW HR HB HW1 HS1
    obtain ⟨wo, rfl⟩ : ∃ wo : World, wo = wr := ⟨_, rfl⟩
    obtain ⟨k, m, A0, c0, hk, hq, rfl, HM, HO, HRW, HR, HB, HW1⟩ := hrel
    by_cases hlt : k < h
    · have hpw : 2 ^ (h - k) = 2 * 2 ^ (h - (k + 1)) := by rw [show h - k = (h - (k + 1)) + 1 by omega, Nat.pow_succ, Nat.mul_comm]
      have hp1 : 0 < 2 ^ (h - (k + 1)) := Nat.pow_pos (by omega)
      have hp2 : 2 ^ (h - (k + 1)) ≤ 2 ^ 9 := Nat.pow_le_pow_right (by omega) (by omega)
      obtain ⟨q, hqd⟩ : ∃ q, 2 ^ (h - (k + 1)) = q := ⟨_, rfl⟩
      have HQ := hid hqd
      rw [hqd] at hpw hp1 hp2
      have hm : m = 2 * q := by rw [HM.out, hpw]
      have HUP := hid (upN_succ k xs)
      have HL32 := hid HO.out.2
      have HLN := hid (show (upN k xs).length = 2 * q by obtain ⟨⟨_, _, e, _⟩, _⟩ := HO.out.sl; injection e with _ e2; omega)
      generalize upN k xs = l at *
      have m1 : (1 : Int) < (m : Int) := by omega
      have m2 : (m : Int) ≤ 1024 := by omega
      have hdv : (m : Int) / 2 = (q : Int) := by omega
      have q0 : 1 ≤ (q : Int) := by omega
      have q1 : (q : Int) ≤ 512 := by omega
      clear hpw hp1 hp2 hqd
      have hm' := hid hm
      clear hm
      go_wp2_with (refine op_makeIdsN (n := q) (upG l) rfl rfl rfl rfl (by omega) ?_)
      intro g5 w6 hgl hgu hb hr
      have G5L := hid hgl
      have X5 := hid hr
      have HG := hid hb
      clear hgl hgu hb hr
      obtain ⟨⟨_, _, e0, hrow⟩, _⟩ := HO.out.sl
      have e0' : A0 = _ := (by injection e0)
      subst e0'
      obtain ⟨ad, rfl, hcell⟩ := hrow.2 (by intro e; have := HLN.out; rw [e] at this; simp at this; omega)
      have HC := hid hcell
      have HLT := hid (show (l.length : Int) = (m : Int) by rw [HLN.out, hm'.out])
      clear hrow hcell e0
      go_wp2_with fail
      go_loopg [33] (q + 1) (fun z i wr => ∃ j : Nat, j ≤ q ∧ z = q + 1 - j ∧ i = .int .i64 j ∧ Hid (wr.heap[g5]? = some (.cells (idCells (parRow (upG l) q j)).toArray 42 (0, 0))) ∧ Hid (Grow wo wr))
      case atStart => exact ⟨0, by omega, rfl, rfl, X5, HG⟩
      case round =>
        clear X5 HG
        obtain ⟨j, hj, hz, rfl, X5, HG⟩ := hrel
        by_cases hjl : j < q
        · have j0 : (0 : Int) ≤ (j : Int) := by omega
          have j1 : (j : Int) < (q : Int) := by omega
          have jm := hm'.out
          have jl := HLN.out
          obtain ⟨a, ha⟩ : ∃ a : Nat, a = 2 * j := ⟨_, rfl⟩
          obtain ⟨b, hbb⟩ : ∃ b : Nat, b = a + 1 := ⟨_, rfl⟩
          have ha2 : 2 * (j : Int) = (a : Int) := by omega
          have hb2 : (a : Int) + 1 = (b : Int) := by omega
          have a1 : (a : Int) < (m : Int) := by omega
          have b1 : (b : Int) < (m : Int) := by omega
          have wa : IntKind.i64.wrap (a : Int) = (a : Int) := IntWalk.i64_in _ (by omega)
          have wb : IntKind.i64.wrap (b : Int) = (b : Int) := IntWalk.i64_in _ (by omega)
          have HCA := hid (HC.out a (by omega))
          have HCB := hid (HC.out b (by omega))
          have A32 := hid (getD_mem_len HL32.out (show a < l.length by omega))
          have B32 := hid (getD_mem_len HL32.out (show b < l.length by omega))
          have HND := hid (show upG l j = nd (l.getD a []) (l.getD b []) by unfold upG; rw [hbb, ha])
          have HPS := hid (parRow_set (upG l) q j hjl)
          clear jm jl ha hbb
          generalize l.getD a [] = xa at *
          generalize l.getD b [] = xb at *
          go_wp2_with fail
          (refine' wp_region_head 15 1 [_, _, _, _, _, _, _, _, _, _, _, _, _, _, _] rfl (by kernel_rfl) (by kernel_rfl) ?hreg1; case' hreg1 => simp only [List.take_succ_cons, List.take_zero, List.zip_cons_cons, List.zip_nil_right, List.drop_succ_cons, List.drop_zero, List.drop_nil])
          (refine' head_val ?dw2 ?de2 ?dr2 ?dh2; (case' dw2 => rfl); (case' de2 => (first | exact fun _ _ _ => trivial | (intro t ht w; cases ht; simp [upE]))); (case' dr2 => (intro w' hw' _; go_simp; with_reducible rfl)); (case' dh2 => (try simp only [Act.put, List.setIfInBounds_toArray, List.set_cons_zero, List.set_cons_succ]))); (refine' head_val ?dw3 ?de3 ?dr3 ?dh3; (case' dw3 => rfl); (case' de3 => (first | exact fun _ _ _ => trivial | (intro t ht w; cases ht; simp [upE]))); (case' dr3 => (intro w' hw' _; go_simp; with_reducible rfl)); (case' dh3 => (try simp only [Act.put, List.setIfInBounds_toArray, List.set_cons_zero, List.set_cons_succ]))); (refine' head_val ?dw4 ?de4 ?dr4 ?dh4; (case' dw4 => rfl); (case' de4 => (first | exact fun _ _ _ => trivial | (intro t ht w; cases ht; simp [upE]))); (case' dr4 => (intro w' hw' _; go_simp; with_reducible rfl)); (case' dh4 => (try simp only [Act.put, List.setIfInBounds_toArray, List.set_cons_zero, List.set_cons_succ]))); (refine' head_val ?dw5 ?de5 ?dr5 ?dh5; (case' dw5 => rfl); (case' de5 => (first | exact fun _ _ _ => trivial | (intro t ht w; cases ht; simp [upE]))); (case' dr5 => (intro w' hw' _; go_simp; with_reducible rfl)); (case' dh5 => (try simp only [Act.put, List.setIfInBounds_toArray, List.set_cons_zero, List.set_cons_succ]))); (refine' head_val ?dw6 ?de6 ?dr6 ?dh6; (case' dw6 => rfl); (case' de6 => (first | exact fun _ _ _ => trivial | (intro t ht w; cases ht; simp [upE]))); (case' dr6 => (intro w' hw' _; go_simp; with_reducible rfl)); (case' dh6 => (try simp only [Act.put, List.setIfInBounds_toArray, List.set_cons_zero, List.set_cons_succ]))); (refine' head_val ?dw7 ?de7 ?dr7 ?dh7; (case' dw7 => rfl); (case' de7 => (first | exact fun _ _ _ => trivial | (intro t ht w; cases ht; simp [upE]))); (case' dr7 => (intro w' hw' _; go_simp; with_reducible rfl)); (case' dh7 => (try simp only [Act.put, List.setIfInBounds_toArray, List.set_cons_zero, List.set_cons_succ])))
          (refine' head_loadAt (x := _) rfl ?_ rfl rfl (fun j v hv => grow_cell (HCA.out j v hv) HG.out) (A32.out) ?_; (first | exact fun _ _ _ => trivial | (intro t ht w; cases ht; simp [upE])); try simp only [Act.put, List.setIfInBounds_toArray, List.set_cons_zero, List.set_cons_succ])
          (refine' head_val ?dw8 ?de8 ?dr8 ?dh8; (case' dw8 => rfl); (case' de8 => (first | exact fun _ _ _ => trivial | (intro t ht w; cases ht; simp [upE]))); (case' dr8 => (intro w' hw' _; go_simp; with_reducible rfl)); (case' dh8 => (try simp only [Act.put, List.setIfInBounds_toArray, List.set_cons_zero, List.set_cons_succ]))); (refine' head_val ?dw9 ?de9 ?dr9 ?dh9; (case' dw9 => rfl); (case' de9 => (first | exact fun _ _ _ => trivial | (intro t ht w; cases ht; simp [upE]))); (case' dr9 => (intro w' hw' _; go_simp; with_reducible rfl)); (case' dh9 => (try simp only [Act.put, List.setIfInBounds_toArray, List.set_cons_zero, List.set_cons_succ]))); (refine' head_val ?dw10 ?de10 ?dr10 ?dh10; (case' dw10 => rfl); (case' de10 => (first | exact fun _ _ _ => trivial | (intro t ht w; cases ht; simp [upE]))); (case' dr10 => (intro w' hw' _; go_simp; with_reducible rfl)); (case' dh10 => (try simp only [Act.put, List.setIfInBounds_toArray, List.set_cons_zero, List.set_cons_succ]))); (refine' head_val ?dw11 ?de11 ?dr11 ?dh11; (case' dw11 => rfl); (case' de11 => (first | exact fun _ _ _ => trivial | (intro t ht w; cases ht; simp [upE]))); (case' dr11 => (intro w' hw' _; go_simp; with_reducible rfl)); (case' dh11 => (try simp only [Act.put, List.setIfInBounds_toArray, List.set_cons_zero, List.set_cons_succ]))); (refine' head_val ?dw12 ?de12 ?dr12 ?dh12; (case' dw12 => rfl); (case' de12 => (first | exact fun _ _ _ => trivial | (intro t ht w; cases ht; simp [upE]))); (case' dr12 => (intro w' hw' _; go_simp; with_reducible rfl)); (case' dh12 => (try simp only [Act.put, List.setIfInBounds_toArray, List.set_cons_zero, List.set_cons_succ])))
          (refine' head_loadAt (x := _) rfl ?_ rfl rfl (fun j v hv => grow_cell (HCB.out j v hv) HG.out) (B32.out) ?_; (first | exact fun _ _ _ => trivial | (intro t ht w; cases ht; simp [upE])); try simp only [Act.put, List.setIfInBounds_toArray, List.set_cons_zero, List.set_cons_succ])
          (refine' head_call ?cw13 ?ce13 ?cr13 ?cc13 ?ch13; (case' cw13 => rfl); (case' ce13 => (first | exact fun _ _ _ => trivial | (intro t ht w; cases ht; simp [upE]))); (case' cr13 => (intro w'; go_simp; first | exact ⟨rfl, rfl⟩ | with_reducible rfl)); (case' cc13 => (intro w' hw' _; exact ktNode xa xb A32.out B32.out w')); (case' ch13 => (try simp only [Act.put, List.setIfInBounds_toArray, List.set_cons_zero, List.set_cons_succ])))
          (refine' head_val ?dw14 ?de14 ?dr14 ?dh14; (case' dw14 => rfl); (case' de14 => (first | exact fun _ _ _ => trivial | (intro t ht w; cases ht; simp [upE]))); (case' dr14 => (intro w' hw' _; go_simp; with_reducible rfl)); (case' dh14 => (try simp only [Act.put, List.setIfInBounds_toArray, List.set_cons_zero, List.set_cons_succ])))
          refine head_nil ?_
          intro w7 hb _
          have X5' := hid (grow_block X5.out hb)
          have HG' := hid (Grow.trans HG.out hb)
          clear hb X5 HG
          go_wp2_with (refine op_storeIds (i := j) (xs := parRow (upG l) q j) (l := nd xa xb) rfl rfl rfl rfl (by first | rfl | exact addr_add _ _) rfl (nd_length _ _) X5'.out (parRow_32 _ (fun _ => nd_length _ _) _ _) (by rw [parRow_length]; exact hjl) ?_)
          intro w8 hz _ hbl
          rw [← HND.out, HPS.out] at hz
          have X5 := hid hz
          have HG := hid (hbl _ _ HG'.out G5L.out)
          clear hz hbl X5' HG'
          go_wp2_with fail
          go_roundg (q + 1 - (j + 1))
          case rel => exact ⟨j + 1, by omega, rfl, by go_num, X5, HG⟩
          case measure => omega
        · obtain rfl : j = q := by omega
          have HRW2 := HRW.out.grow HG.out
          obtain ⟨vs, r1, r2, r3⟩ := HRW2
          have R1 := hid r1
          have R2 := hid r2
          have R3 := hid r3
          have HOW := hid (show OwnIds 42 W.heap.size wr (.slice (some ⟨g5, 0, none⟩) j j) (upRow l) from by
            have e : upRow l = parRow (upG l) j j := by rw [parRow_all, upRow, HLN.out, show 2 * j / 2 = j by omega]
            rw [e]
            exact blk_own X5.out (Nat.le_trans HW1.out G5L.out) (parRow_length _ _ _) (parRow_32 _ (fun _ => nd_length _ _) _ _) (by omega))
          have HR1 := hid (grow_block HR.out HG.out)
          have HB1 := hid (Grow.trans HB.out HG.out)
          have HW2 := hid (Nat.le_trans HW1.out (show wo.heap.size ≤ wr.heap.size from HG.out.size))
          have HRL1 := hid (rowsTo_length k xs)
          clear r1 r2 r3 HRW HR HB HW1 HG X5
          go_wp2_with (refine op_app1V (bytes := 24) (z := .slice none 0 0) (v := u4) (u := .slice (some ⟨g5, 0, none⟩) j j) (n := (rowsTo k xs).length) (ys := vs) (B := W.heap.size) (w0 := wr) rfl rfl rfl rfl rfl rfl Tryz.underlying148 infoIds rfl (fun _ => rfl) (fun _ => rfl) rfl rfl R2.out (Below.refl _ _) HW2.out (by rw [HRL1.out]; omega) (by rw [HRL1.out]; omega) ?_)
          intro s5 v5 w9 hown hgb hbel hsz
          have HRW := hid (OwnRows.app HOW.out vs R1.out R2.out R3.out hown hgb)
          rw [← HUP.out, ← rowsTo_succ] at HRW
          have HO := hid (show OwnIds 42 W.heap.size w9 (.slice (some ⟨g5, 0, none⟩) j j) (upN (k + 1) xs) from by
            rw [HUP.out]
            exact ⟨own_kept HOW.out.1 hgb fun k hk e => own_types_ne HOW.out.1 R2.out (by decide) k hk e, HOW.out.2⟩)
          have HR := hid (show w9.heap[gr]? = some (.cells (u8s (zero8 32)).toArray 42 (0, 0)) by rw [hbel.block gr HRU.out]; exact HR1.out)
          have HB := hid (show Grow w w9 from Below.trans HB1.out (hbel.mono HGB.out))
          have HW1 := hid hsz
          clear hown hgb hbel hsz R1 R2 R3 HOW HR1 HB1 HW2
          go_wp2_with fail
          go_roundg (h + 1 - (k + 1))
          case rel => exact ⟨k + 1, j, some ⟨g5, 0, none⟩, j, by omega, rfl, rfl, hid HQ.out.symm, HO, HRW, HR, HB, HW1⟩
          case measure => omega
    · obtain rfl : k = h := by omega
      obtain rfl : m = 1 := by rw [HM.out, Nat.sub_self]
      obtain ⟨⟨_, _, e0, hrow⟩, _⟩ := HO.out.sl
      have e0' : A0 = _ := (by injection e0)
      subst e0'
      have HL1 := hid (show (upN k xs).length = 1 by injection e0 with _ e2; omega)
      obtain ⟨ad, rfl, hcell⟩ := hrow.2 (by intro e; have := HL1.out; rw [e] at this; simp at this)
      have HC := hid (show ∀ j v, (u8s (foldTop k xs))[j]? = some v → wo.cell? (ad.add j) = some v from fun j v hv => hcell 0 (by rw [HL1.out]; omega) j v hv)
      clear hrow hcell e0
      go_wp2_with (first | (refine op_loadAt (l := foldTop k xs) rfl rfl rfl HC.out HTL.out ?_) | (refine op_storeId (l := foldTop k xs) rfl rfl rfl rfl rfl HR.out (by rfl) HTL.out ?_))
      intro wz hz hgb hbz
      have HZ := hid hz
      have HBZ := hid (hbz _ _ HB.out HRL.out)
      have HRZ := hid (HRW.out.store hgb HRU.out)
      clear hz hgb hbz
      go_wp2_with fail
      refine bodyPost_ret (ret_idt rfl rfl HZ.out HTL.out) rfl ⟨_, rfl, ?_, HBZ.out⟩
      rw [HFR.out]
      exact HRZ.out.base HGB.out
end Go.Proofs.YtabkaflccaklhaaGreat
