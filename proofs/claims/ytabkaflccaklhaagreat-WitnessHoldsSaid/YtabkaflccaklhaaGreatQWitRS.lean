/- Joined: QWitR QWitS. -/
import Derived.Test.YtabkaflccaklhaaGreatQWitA
set_option linter.unusedSimpArgs false
set_option linter.unusedVariables false
section
/- The reference of witness: Alike, Honest, Hidden, First; the law's plain: contracts. -/
namespace Go.Proofs.YtabkaflccaklhaaGreat
open Go.RowKit
open Go.Qk hiding rotr b4
set_option maxHeartbeats 2000000
set_option maxRecDepth 100000
theorem refAlike9 (bits : Int) (M N : Nat) (hM : max bits 0 = (M : Int)) (hN : min (M : Int) 256 = (N : Int)) (a b : IdK) (ha : a.length = 32) (hb : b.length = 32) (w : World) :
    Calls Tryz.prog 41 #[.int .i64 bits, idV a, idV b] w fun e w' => e = .returned (.bool (alikeB N a b)) ∧ Below w.heap.size w w' := by
  have HA := hid ha
  have HB2 := hid hb
  have hn : N ≤ 256 := by omega
  clear ha hb
  go_enter Tryz.func41, Tryz.ntmps41
  have HB := hid (grow_refl w)
  apply wp_seq_k; intro _ _; apply wp_region_lit
  refine op_box (l := a) rfl rfl rfl ?_
  intro gx w1 hgl hgu hb hr
  have XL := hid (Nat.le_trans HB.out.size hgl)
  replace HB := hid (Grow.trans HB.out hb)
  have X := hid hr; have XU := hid hgu
  clear hr hgl hgu hb
  try simp only [Act.put, List.setIfInBounds_toArray, List.set_cons_zero, List.set_cons_succ]
  refine op_box (l := b) rfl rfl rfl ?_
  intro gy w2 hgl hgu hb hr
  have YL := hid (Nat.le_trans HB.out.size hgl)
  replace HB := hid (Grow.trans HB.out hb)
  replace X := hid (grow_block X.out hb)
  have Y := hid hr; have YU := hid hgu
  clear hr hgl hgu hb
  try simp only [Act.put, List.setIfInBounds_toArray, List.set_cons_zero, List.set_cons_succ]
  go_wp2_with fail
  go_loopg [7] (N + 1) (fun z i wr => ∃ k : Nat, k ≤ N ∧ z = N + 1 - k ∧ i = .int .i64 (k : Int) ∧ Hid (alikeB k a b = true) ∧ Hid (wr.heap[gx]? = some (.cells (u8s a).toArray 42 (0, 0))) ∧ Hid (wr.heap[gy]? = some (.cells (u8s b).toArray 42 (0, 0))) ∧ Hid (Grow w wr))
  case atStart => exact ⟨0, by omega, rfl, rfl, rfl, X, Y, HB⟩
  case round =>
    clear X Y HB
    obtain ⟨k, hk, hz, rfl, HE, X, Y, HB⟩ := hrel
    have k0 : (0 : Int) ≤ (k : Int) := by omega
    by_cases hlt : k < N
    · have HI1 := hid (fun w => refBit6 a HA.out k (by omega) w)
      have HI2 := hid (fun w => refBit6 b HB2.out k (by omega) w)
      have HSU := hid (alikeB_succ k a b)
      have HSTP := hid (fun h => alikeB_stop (a := a) (b := b) hlt h)
      have c1 : decide ((k : Int) < bits) = true := by simp; omega
      have c2 : decide ((k : Int) < 256) = true := by simp; omega
      have k3 : (k : Int) ≤ 256 := by omega
      generalize bitI a k = x at *
      generalize bitI b k = y at *
      clear hM hN
      go_wp2_with fail
      (refine' wp_region_head 7 0 [_, _, _, _, _, _, _] rfl (by kernel_rfl) (by kernel_rfl) ?hreg1; case' hreg1 => simp only [List.take_succ_cons, List.take_zero, List.zip_cons_cons, List.zip_nil_right, List.drop_succ_cons, List.drop_zero, List.drop_nil])
      (refine' head_loadId (x := _) rfl ?_ rfl rfl X.out (HA.out) ?_; (first | exact fun _ _ _ => trivial | (intro t ht w; cases ht; simp [upE])); try simp only [Act.put, List.setIfInBounds_toArray, List.set_cons_zero, List.set_cons_succ])
      (refine' head_val ?dw2 ?de2 ?dr2 ?dh2; (case' dw2 => rfl); (case' de2 => (first | exact fun _ _ _ => trivial | (intro t ht w; cases ht; simp [upE]))); (case' dr2 => (intro w' hw' _; go_simp; with_reducible rfl)); (case' dh2 => (try simp only [Act.put, List.setIfInBounds_toArray, List.set_cons_zero, List.set_cons_succ])))
      (refine' head_call ?cw3 ?ce3 ?cr3 ?cc3 ?ch3; (case' cw3 => rfl); (case' ce3 => (first | exact fun _ _ _ => trivial | (intro t ht w; cases ht; simp [upE]))); (case' cr3 => (intro w'; go_simp; first | exact ⟨rfl, rfl⟩ | with_reducible rfl)); (case' cc3 => (intro w' hw' _; exact HI1.out w')); (case' ch3 => (try simp only [Act.put, List.setIfInBounds_toArray, List.set_cons_zero, List.set_cons_succ])))
      (refine' head_loadId (x := _) rfl ?_ rfl rfl Y.out (HB2.out) ?_; (first | exact fun _ _ _ => trivial | (intro t ht w; cases ht; simp [upE])); try simp only [Act.put, List.setIfInBounds_toArray, List.set_cons_zero, List.set_cons_succ])
      (refine' head_val ?dw4 ?de4 ?dr4 ?dh4; (case' dw4 => rfl); (case' de4 => (first | exact fun _ _ _ => trivial | (intro t ht w; cases ht; simp [upE]))); (case' dr4 => (intro w' hw' _; go_simp; with_reducible rfl)); (case' dh4 => (try simp only [Act.put, List.setIfInBounds_toArray, List.set_cons_zero, List.set_cons_succ])))
      (refine' head_call ?cw5 ?ce5 ?cr5 ?cc5 ?ch5; (case' cw5 => rfl); (case' ce5 => (first | exact fun _ _ _ => trivial | (intro t ht w; cases ht; simp [upE]))); (case' cr5 => (intro w'; go_simp; first | exact ⟨rfl, rfl⟩ | with_reducible rfl)); (case' cc5 => (intro w' hw' _; exact HI2.out w')); (case' ch5 => (try simp only [Act.put, List.setIfInBounds_toArray, List.set_cons_zero, List.set_cons_succ])))
      (refine' head_val ?dw6 ?de6 ?dr6 ?dh6; (case' dw6 => rfl); (case' de6 => (first | exact fun _ _ _ => trivial | (intro t ht w; cases ht; simp [upE]))); (case' dr6 => (intro w' hw' _; go_simp; with_reducible rfl)); (case' dh6 => (try simp only [Act.put, List.setIfInBounds_toArray, List.set_cons_zero, List.set_cons_succ])))
      refine head_nil ?_
      intro w3 hb _
      replace HB := hid (Grow.trans HB.out hb)
      replace X := hid (grow_block X.out hb)
      replace Y := hid (grow_block Y.out hb)
      clear hb
      refine wpList_nil ?_
      by_cases he : x = y
      · have HE2 := hid (show alikeB (k + 1) a b = true by rw [HSU.out, HE.out]; simpa using he)
        have t1 : (x != y) = false := by simpa using he
        clear he
        go_wp2_with fail
        go_roundg (N + 1 - (k + 1))
        case rel => exact ⟨k + 1, by omega, rfl, by go_num, HE2, X, Y, HB⟩
        case measure => omega
      · have t1 : (x != y) = true := by simpa using he
        have HF := hid (HSTP.out he)
        clear he
        go_wp2_with fail
        go_ret
        exact ⟨by rw [HF.out]; rfl, HB.out⟩
    · obtain rfl : k = N := by omega
      by_cases h1 : (k : Int) < bits
      · have c1 : decide ((k : Int) < bits) = true := by simpa using h1
        have c2 : decide ((k : Int) < 256) = false := by simp; omega
        clear hM hN h1
        go_wp2_with fail
        go_ret
        exact ⟨by rw [HE.out]; rfl, HB.out⟩
      · have c1 : decide ((k : Int) < bits) = false := by simpa using h1
        clear hM hN h1
        go_wp2_with fail
        go_ret
        exact ⟨by rw [HE.out]; rfl, HB.out⟩
theorem wr_cell0 {w : World} {ad : Addr} {x : WRow} (hc : ∀ j v, (wrCells x)[j]? = some v → w.cell? (ad.add j) = some v) : w.cell? ad = some (.int .i64 x.1) := by
  have h := hc 0 _ rfl
  have e : ad.add 0 = ad := by unfold Addr.add; split <;> simp_all
  rwa [e] at h
theorem wr_cell1 {w : World} {ad : Addr} {x : WRow} (hc : ∀ j v, (wrCells x)[j]? = some v → w.cell? (ad.add j) = some v) (j : Nat) (v : Value) (hv : (u8s x.2)[j]? = some v) : w.cell? ((ad.add 1).add j) = some v := by
  rw [addr_add_add]
  refine hc (1 + j) v ?_
  rw [Nat.add_comm]
  exact hv
theorem any_take_succ {fs : List WRow} {k : Nat} (hk : k < fs.length) (p : WRow → Bool) : (fs.take (k + 1)).any p = ((fs.take k).any p || p (fs.getD k wr0)) := by
  rw [List.take_succ_eq_append_getElem hk, List.any_append]
  simp [hk]
theorem refHonest9 (b : Nat) (hb : b ≤ 256) (A : Option Addr) (n c : Nat) (fs : List WRow) (sum : IdK) (hs : sum.length = 32) (leaf : Int) (w : World) (hx : WrRow w A fs) (hn : fs.length = n) (h32 : ∀ x ∈ fs, x.2.length = 32) :
    Calls Tryz.prog 29 #[.int .i64 (b : Int), .slice A n c, idV sum, .int .i64 leaf] w fun e w' => e = .returned (.bool (honestW b fs sum leaf)) ∧ Below w.heap.size w w' := by
  have HX := hid hx
  have HN := hid hn
  have H32 := hid h32
  have HS := hid hs
  have n9 : n ≤ 9223372036854775807 := by have := hx.1; omega
  have HP := hid (show honestW b fs sum leaf = fs.any (fun r => decide (r.1 = leaf) && alikeB b r.2 sum) from rfl)
  clear hx hn h32 hs
  go_enter Tryz.func29, Tryz.ntmps29
  have HB := hid (grow_refl w)
  apply wp_seq_k; intro _ _; apply wp_region_lit
  refine op_box (l := sum) rfl rfl rfl ?_
  intro gx w1 hgl hgu hb hr
  have XL := hid (Nat.le_trans HB.out.size hgl)
  replace HB := hid (Grow.trans HB.out hb)
  have X := hid hr; have XU := hid hgu
  clear hr hgl hgu hb
  try simp only [Act.put, List.setIfInBounds_toArray, List.set_cons_zero, List.set_cons_succ]
  go_wp2_with fail
  go_loopg [9] (n + 1) (fun z i wr => ∃ k : Nat, k ≤ n ∧ z = n + 1 - k ∧ i = .int .i64 (k : Int) ∧ Hid ((fs.take k).any (fun r => decide (r.1 = leaf) && alikeB b r.2 sum) = false) ∧ Hid (wr.heap[gx]? = some (.cells (u8s sum).toArray 42 (0, 0))) ∧ Hid (Grow w wr))
  case atStart => exact ⟨0, by omega, by omega, rfl, rfl, X, HB⟩
  case round =>
    clear HB X
    obtain ⟨k, hk, hz, rfl, HA, X, HB⟩ := hrel
    have k0 : (0 : Int) ≤ (k : Int) := by omega
    by_cases hlt : k < n
    · have k1 : (k : Int) < (n : Int) := by omega
      have hkl : k < fs.length := by rw [HN.out]; exact hlt
      obtain ⟨ad, rfl, hc⟩ := (HX.out.grow HB.out).at_ k hkl
      have HC0 := hid (wr_cell0 hc)
      have HC1 := hid (wr_cell1 hc)
      have HM := hid (wr_mem hkl)
      have HX32 := hid (H32.out _ HM.out)
      have HTK := hid (any_take_succ hkl (fun r => decide (r.1 = leaf) && alikeB b r.2 sum))
      clear hc
      generalize fs.getD k wr0 = x at *
      have HAL := hid (fun w => refAlike9 (b : Int) b b (by omega) (by omega) x.2 sum HX32.out HS.out w)
      go_wp2_with fail
      by_cases he : x.1 = leaf
      · have tq : (x.1 == leaf) = true := by simpa using he
        have HTK2 := hid (show (fs.take (k + 1)).any (fun r => decide (r.1 = leaf) && alikeB b r.2 sum) = alikeB b x.2 sum by rw [HTK.out, HA.out, decide_eq_true he]; simp)
        have HIN := hid (fun (h : alikeB b x.2 sum = true) => show honestW b fs sum leaf = true from List.any_eq_true.2 ⟨x, HM.out, by rw [decide_eq_true he, h]; rfl⟩)
        clear HTK he HA
        generalize alikeB b x.2 sum = r at *
        (refine' wp_region_head 17 0 [_, _, _, _, _, _, _, _, _, _, _, _, _, _, _, _, _] rfl (by kernel_rfl) (by kernel_rfl) ?hreg7; case' hreg7 => simp only [List.take_succ_cons, List.take_zero, List.zip_cons_cons, List.zip_nil_right, List.drop_succ_cons, List.drop_zero, List.drop_nil])
        (refine' head_val ?dw8 ?de8 ?dr8 ?dh8; (case' dw8 => rfl); (case' de8 => (first | exact fun _ _ _ => trivial | (intro t ht w; cases ht; simp [upE]))); (case' dr8 => (intro w' hw' _; go_simp; with_reducible rfl)); (case' dh8 => (try simp only [Act.put, List.setIfInBounds_toArray, List.set_cons_zero, List.set_cons_succ]))); (refine' head_val ?dw9 ?de9 ?dr9 ?dh9; (case' dw9 => rfl); (case' de9 => (first | exact fun _ _ _ => trivial | (intro t ht w; cases ht; simp [upE]))); (case' dr9 => (intro w' hw' _; go_simp; with_reducible rfl)); (case' dh9 => (try simp only [Act.put, List.setIfInBounds_toArray, List.set_cons_zero, List.set_cons_succ]))); (refine' head_val ?dw10 ?de10 ?dr10 ?dh10; (case' dw10 => rfl); (case' de10 => (first | exact fun _ _ _ => trivial | (intro t ht w; cases ht; simp [upE]))); (case' dr10 => (intro w' hw' _; go_simp; with_reducible rfl)); (case' dh10 => (try simp only [Act.put, List.setIfInBounds_toArray, List.set_cons_zero, List.set_cons_succ]))); (refine' head_val ?dw11 ?de11 ?dr11 ?dh11; (case' dw11 => rfl); (case' de11 => (first | exact fun _ _ _ => trivial | (intro t ht w; cases ht; simp [upE]))); (case' dr11 => (intro w' hw' _; go_simp; with_reducible rfl)); (case' dh11 => (try simp only [Act.put, List.setIfInBounds_toArray, List.set_cons_zero, List.set_cons_succ])))
        (refine' head_loadCell rfl ?_ rfl rfl (HC0.out) Tryz.underlying3 rfl ?_; (first | exact fun _ _ _ => trivial | (intro t ht w; cases ht; simp [upE])); try simp only [Act.put, List.setIfInBounds_toArray, List.set_cons_zero, List.set_cons_succ])
        (refine' head_val ?dw12 ?de12 ?dr12 ?dh12; (case' dw12 => rfl); (case' de12 => (first | exact fun _ _ _ => trivial | (intro t ht w; cases ht; simp [upE]))); (case' dr12 => (intro w' hw' _; go_simp; with_reducible rfl)); (case' dh12 => (try simp only [Act.put, List.setIfInBounds_toArray, List.set_cons_zero, List.set_cons_succ]))); (refine' head_val ?dw13 ?de13 ?dr13 ?dh13; (case' dw13 => rfl); (case' de13 => (first | exact fun _ _ _ => trivial | (intro t ht w; cases ht; simp [upE]))); (case' dr13 => (intro w' hw' _; go_simp; with_reducible rfl)); (case' dh13 => (try simp only [Act.put, List.setIfInBounds_toArray, List.set_cons_zero, List.set_cons_succ]))); (refine' head_val ?dw14 ?de14 ?dr14 ?dh14; (case' dw14 => rfl); (case' de14 => (first | exact fun _ _ _ => trivial | (intro t ht w; cases ht; simp [upE]))); (case' dr14 => (intro w' hw' _; go_simp; with_reducible rfl)); (case' dh14 => (try simp only [Act.put, List.setIfInBounds_toArray, List.set_cons_zero, List.set_cons_succ]))); (refine' head_val ?dw15 ?de15 ?dr15 ?dh15; (case' dw15 => rfl); (case' de15 => (first | exact fun _ _ _ => trivial | (intro t ht w; cases ht; simp [upE]))); (case' dr15 => (intro w' hw' _; go_simp; with_reducible rfl)); (case' dh15 => (try simp only [Act.put, List.setIfInBounds_toArray, List.set_cons_zero, List.set_cons_succ]))); (refine' head_val ?dw16 ?de16 ?dr16 ?dh16; (case' dw16 => rfl); (case' de16 => (first | exact fun _ _ _ => trivial | (intro t ht w; cases ht; simp [upE]))); (case' dr16 => (intro w' hw' _; go_simp; with_reducible rfl)); (case' dh16 => (try simp only [Act.put, List.setIfInBounds_toArray, List.set_cons_zero, List.set_cons_succ]))); (refine' head_val ?dw17 ?de17 ?dr17 ?dh17; (case' dw17 => rfl); (case' de17 => (first | exact fun _ _ _ => trivial | (intro t ht w; cases ht; simp [upE]))); (case' dr17 => (intro w' hw' _; go_simp; with_reducible rfl)); (case' dh17 => (try simp only [Act.put, List.setIfInBounds_toArray, List.set_cons_zero, List.set_cons_succ]))); (refine' head_val ?dw18 ?de18 ?dr18 ?dh18; (case' dw18 => rfl); (case' de18 => (first | exact fun _ _ _ => trivial | (intro t ht w; cases ht; simp [upE]))); (case' dr18 => (intro w' hw' _; go_simp; with_reducible rfl)); (case' dh18 => (try simp only [Act.put, List.setIfInBounds_toArray, List.set_cons_zero, List.set_cons_succ]))); (refine' head_val ?dw19 ?de19 ?dr19 ?dh19; (case' dw19 => rfl); (case' de19 => (first | exact fun _ _ _ => trivial | (intro t ht w; cases ht; simp [upE]))); (case' dr19 => (intro w' hw' _; go_simp; with_reducible rfl)); (case' dh19 => (try simp only [Act.put, List.setIfInBounds_toArray, List.set_cons_zero, List.set_cons_succ])))
        (refine' head_loadAt (x := _) rfl ?_ rfl rfl (HC1.out) (HX32.out) ?_; (first | exact fun _ _ _ => trivial | (intro t ht w; cases ht; simp [upE])); try simp only [Act.put, List.setIfInBounds_toArray, List.set_cons_zero, List.set_cons_succ])
        (refine' head_loadId (x := _) rfl ?_ rfl rfl X.out (HS.out) ?_; (first | exact fun _ _ _ => trivial | (intro t ht w; cases ht; simp [upE])); try simp only [Act.put, List.setIfInBounds_toArray, List.set_cons_zero, List.set_cons_succ])
        (refine' head_call ?cw20 ?ce20 ?cr20 ?cc20 ?ch20; (case' cw20 => rfl); (case' ce20 => (first | exact fun _ _ _ => trivial | (intro t ht w; cases ht; simp [upE]))); (case' cr20 => (intro w'; go_simp; first | exact ⟨rfl, rfl⟩ | with_reducible rfl)); (case' cc20 => (intro w' hw' _; exact HAL.out w')); (case' ch20 => (try simp only [Act.put, List.setIfInBounds_toArray, List.set_cons_zero, List.set_cons_succ])))
        (refine' head_val ?dw21 ?de21 ?dr21 ?dh21; (case' dw21 => rfl); (case' de21 => (first | exact fun _ _ _ => trivial | (intro t ht w; cases ht; simp [upE]))); (case' dr21 => (intro w' hw' _; go_simp; with_reducible rfl)); (case' dh21 => (try simp only [Act.put, List.setIfInBounds_toArray, List.set_cons_zero, List.set_cons_succ])))
        refine head_nil ?_
        intro w2 hb _
        replace HB := hid (Grow.trans HB.out hb)
        replace X := hid (grow_block X.out hb)
        clear hb
        refine wpList_nil ?_
        cases r with
        | true =>
          have HIN2 := hid (HIN.out rfl)
          go_wp2_with fail
          go_ret
          exact ⟨by rw [HIN2.out]; rfl, HB.out⟩
        | false =>
          go_wp2_with fail
          go_roundg (n + 1 - (k + 1))
          case rel => exact ⟨k + 1, by omega, rfl, by go_num, HTK2, X, HB⟩
          case measure => omega
      · have tq : (x.1 == leaf) = false := by simpa using he
        have HTK2 := hid (show (fs.take (k + 1)).any (fun r => decide (r.1 = leaf) && alikeB b r.2 sum) = false by rw [HTK.out, HA.out, decide_eq_false he]; rfl)
        clear HTK he HA
        (refine' wp_region_head 17 0 [_, _, _, _, _, _, _, _, _, _, _, _, _, _, _, _, _] rfl (by kernel_rfl) (by kernel_rfl) ?hreg22; case' hreg22 => simp only [List.take_succ_cons, List.take_zero, List.zip_cons_cons, List.zip_nil_right, List.drop_succ_cons, List.drop_zero, List.drop_nil])
        (refine' head_val ?dw23 ?de23 ?dr23 ?dh23; (case' dw23 => rfl); (case' de23 => (first | exact fun _ _ _ => trivial | (intro t ht w; cases ht; simp [upE]))); (case' dr23 => (intro w' hw' _; go_simp; with_reducible rfl)); (case' dh23 => (try simp only [Act.put, List.setIfInBounds_toArray, List.set_cons_zero, List.set_cons_succ]))); (refine' head_val ?dw24 ?de24 ?dr24 ?dh24; (case' dw24 => rfl); (case' de24 => (first | exact fun _ _ _ => trivial | (intro t ht w; cases ht; simp [upE]))); (case' dr24 => (intro w' hw' _; go_simp; with_reducible rfl)); (case' dh24 => (try simp only [Act.put, List.setIfInBounds_toArray, List.set_cons_zero, List.set_cons_succ]))); (refine' head_val ?dw25 ?de25 ?dr25 ?dh25; (case' dw25 => rfl); (case' de25 => (first | exact fun _ _ _ => trivial | (intro t ht w; cases ht; simp [upE]))); (case' dr25 => (intro w' hw' _; go_simp; with_reducible rfl)); (case' dh25 => (try simp only [Act.put, List.setIfInBounds_toArray, List.set_cons_zero, List.set_cons_succ]))); (refine' head_val ?dw26 ?de26 ?dr26 ?dh26; (case' dw26 => rfl); (case' de26 => (first | exact fun _ _ _ => trivial | (intro t ht w; cases ht; simp [upE]))); (case' dr26 => (intro w' hw' _; go_simp; with_reducible rfl)); (case' dh26 => (try simp only [Act.put, List.setIfInBounds_toArray, List.set_cons_zero, List.set_cons_succ])))
        (refine' head_loadCell rfl ?_ rfl rfl (HC0.out) Tryz.underlying3 rfl ?_; (first | exact fun _ _ _ => trivial | (intro t ht w; cases ht; simp [upE])); try simp only [Act.put, List.setIfInBounds_toArray, List.set_cons_zero, List.set_cons_succ])
        (refine' head_val ?dw27 ?de27 ?dr27 ?dh27; (case' dw27 => rfl); (case' de27 => (first | exact fun _ _ _ => trivial | (intro t ht w; cases ht; simp [upE]))); (case' dr27 => (intro w' hw' _; go_simp; with_reducible rfl)); (case' dh27 => (try simp only [Act.put, List.setIfInBounds_toArray, List.set_cons_zero, List.set_cons_succ]))); (refine' head_val ?dw28 ?de28 ?dr28 ?dh28; (case' dw28 => rfl); (case' de28 => (first | exact fun _ _ _ => trivial | (intro t ht w; cases ht; simp [upE]))); (case' dr28 => (intro w' hw' _; go_simp; with_reducible rfl)); (case' dh28 => (try simp only [Act.put, List.setIfInBounds_toArray, List.set_cons_zero, List.set_cons_succ]))); (refine' head_val ?dw29 ?de29 ?dr29 ?dh29; (case' dw29 => rfl); (case' de29 => (first | exact fun _ _ _ => trivial | (intro t ht w; cases ht; simp [upE]))); (case' dr29 => (intro w' hw' _; go_simp; with_reducible rfl)); (case' dh29 => (try simp only [Act.put, List.setIfInBounds_toArray, List.set_cons_zero, List.set_cons_succ])))
        (refine' head_skip (V := fun _ _ => True) ?sw30 ?se30 ?sh30; (case' sw30 => rfl); (case' se30 => (first | exact fun _ _ _ => trivial | (intro t ht w; cases ht; simp [upE]))); (case' sh30 => (try simp only [Act.put, List.setIfInBounds_toArray, List.set_cons_zero, List.set_cons_succ]))); (refine' head_skip (V := fun _ _ => True) ?sw31 ?se31 ?sh31; (case' sw31 => rfl); (case' se31 => (first | exact fun _ _ _ => trivial | (intro t ht w; cases ht; simp [upE]))); (case' sh31 => (try simp only [Act.put, List.setIfInBounds_toArray, List.set_cons_zero, List.set_cons_succ]))); (refine' head_skip (V := fun _ _ => True) ?sw32 ?se32 ?sh32; (case' sw32 => rfl); (case' se32 => (first | exact fun _ _ _ => trivial | (intro t ht w; cases ht; simp [upE]))); (case' sh32 => (try simp only [Act.put, List.setIfInBounds_toArray, List.set_cons_zero, List.set_cons_succ]))); (refine' head_skip (V := fun _ _ => True) ?sw33 ?se33 ?sh33; (case' sw33 => rfl); (case' se33 => (first | exact fun _ _ _ => trivial | (intro t ht w; cases ht; simp [upE]))); (case' sh33 => (try simp only [Act.put, List.setIfInBounds_toArray, List.set_cons_zero, List.set_cons_succ]))); (refine' head_skip (V := fun _ _ => True) ?sw34 ?se34 ?sh34; (case' sw34 => rfl); (case' se34 => (first | exact fun _ _ _ => trivial | (intro t ht w; cases ht; simp [upE]))); (case' sh34 => (try simp only [Act.put, List.setIfInBounds_toArray, List.set_cons_zero, List.set_cons_succ]))); (refine' head_skip (V := fun _ _ => True) ?sw35 ?se35 ?sh35; (case' sw35 => rfl); (case' se35 => (first | exact fun _ _ _ => trivial | (intro t ht w; cases ht; simp [upE]))); (case' sh35 => (try simp only [Act.put, List.setIfInBounds_toArray, List.set_cons_zero, List.set_cons_succ]))); (refine' head_skip (V := fun _ _ => True) ?sw36 ?se36 ?sh36; (case' sw36 => rfl); (case' se36 => (first | exact fun _ _ _ => trivial | (intro t ht w; cases ht; simp [upE]))); (case' sh36 => (try simp only [Act.put, List.setIfInBounds_toArray, List.set_cons_zero, List.set_cons_succ]))); (refine' head_skip (V := fun _ _ => True) ?sw37 ?se37 ?sh37; (case' sw37 => rfl); (case' se37 => (first | exact fun _ _ _ => trivial | (intro t ht w; cases ht; simp [upE]))); (case' sh37 => (try simp only [Act.put, List.setIfInBounds_toArray, List.set_cons_zero, List.set_cons_succ])))
        (refine' head_val ?dw38 ?de38 ?dr38 ?dh38; (case' dw38 => rfl); (case' de38 => (first | exact fun _ _ _ => trivial | (intro t ht w; cases ht; simp [upE]))); (case' dr38 => (intro w' hw' _; go_simp; with_reducible rfl)); (case' dh38 => (try simp only [Act.put, List.setIfInBounds_toArray, List.set_cons_zero, List.set_cons_succ])))
        refine head_nil ?_
        intro w3 hb _
        replace HB := hid (Grow.trans HB.out hb)
        replace X := hid (grow_block X.out hb)
        clear hb
        refine wpList_nil ?_
        go_wp2_with fail
        go_roundg (n + 1 - (k + 1))
        case rel => exact ⟨k + 1, by omega, rfl, by go_num, HTK2, X, HB⟩
        case measure => omega
    · obtain rfl : k = n := by omega
      rw [List.take_of_length_le (by rw [HN.out]; omega)] at HA
      go_wp2_with fail
      go_ret
      exact ⟨by rw [HP.out, HA.out]; rfl, HB.out⟩
theorem refHidden9 (A : Option Addr) (n c : Nat) (fs : List WRow) (leaf side : Int) (bit : Nat) (hb : bit < 256) (w : World) (hx : WrRow w A fs) (hn : fs.length = n) (h32 : ∀ x ∈ fs, x.2.length = 32) :
    Calls Tryz.prog 67 #[.slice A n c, .int .i64 leaf, .int .i64 (bit : Int), .int .i64 side] w fun e w' => e = .returned (.bool (!shownW fs leaf bit side)) ∧ Below w.heap.size w w' := by
  have HX := hid hx
  have HN := hid hn
  have H32 := hid h32
  have n9 : n ≤ 9223372036854775807 := by have := hx.1; omega
  have HP := hid (show shownW fs leaf bit side = fs.any (fun r => decide (r.1 = leaf) && decide (bitI r.2 bit = side)) from rfl)
  clear hx hn h32
  go_enter Tryz.func67, Tryz.ntmps67
  have HB := hid (grow_refl w)
  go_wp2_with fail
  go_loopg [9] (n + 1) (fun z i wr => ∃ k : Nat, k ≤ n ∧ z = n + 1 - k ∧ i = .int .i64 (k : Int) ∧ Hid ((fs.take k).any (fun r => decide (r.1 = leaf) && decide (bitI r.2 bit = side)) = false) ∧ Hid (Grow w wr))
  case atStart => exact ⟨0, by omega, by omega, rfl, rfl, HB⟩
  case round =>
    clear HB
    obtain ⟨k, hk, hz, rfl, HA, HB⟩ := hrel
    have k0 : (0 : Int) ≤ (k : Int) := by omega
    by_cases hlt : k < n
    · have k1 : (k : Int) < (n : Int) := by omega
      have hkl : k < fs.length := by rw [HN.out]; exact hlt
      obtain ⟨ad, rfl, hc⟩ := (HX.out.grow HB.out).at_ k hkl
      have hc0 := wr_cell0 hc
      have HC1 := hid (wr_cell1 hc)
      have HM := hid (wr_mem hkl)
      have HX32 := hid (H32.out _ HM.out)
      have HTK := hid (any_take_succ hkl (fun r => decide (r.1 = leaf) && decide (bitI r.2 bit = side)))
      clear hc
      generalize fs.getD k wr0 = x at *
      have HAL := hid (fun w => refBit6 x.2 HX32.out bit hb w)
      by_cases he : x.1 = leaf
      · have tq : (x.1 == leaf) = true := by simpa using he
        have HTK2 := hid (show (fs.take (k + 1)).any (fun r => decide (r.1 = leaf) && decide (bitI r.2 bit = side)) = decide (bitI x.2 bit = side) by rw [HTK.out, HA.out, decide_eq_true he]; simp)
        have HIN := hid (fun (h : bitI x.2 bit = side) => show shownW fs leaf bit side = true from List.any_eq_true.2 ⟨x, HM.out, by simp [he, h]⟩)
        clear HTK he HA
        generalize bitI x.2 bit = r at *
        go_wp2_with (first | (refine opG_loadAt (l := x.2) rfl rfl rfl HC1.out HX32.out ?_) | fail)
        refine (HAL.out _).mono ?_
        rintro _ w4 ⟨rfl, hb4⟩
        have HB4 := hid (Grow.trans HB.out hb4)
        clear hb4 hc0
        by_cases hr : r = side
        · have tr : (r == side) = true := by simpa using hr
          have HIN2 := hid (HIN.out hr)
          clear hr
          go_wp2_with fail
          go_ret
          exact ⟨by rw [HIN2.out]; rfl, HB4.out⟩
        · have tr : (r == side) = false := by simpa using hr
          rw [decide_eq_false hr] at HTK2
          clear hr
          go_wp2_with fail
          go_roundg (n + 1 - (k + 1))
          case rel => exact ⟨k + 1, by omega, rfl, by go_num, HTK2, HB4⟩
          case measure => omega
      · have tq : (x.1 == leaf) = false := by simpa using he
        have HTK2 := hid (show (fs.take (k + 1)).any (fun r => decide (r.1 = leaf) && decide (bitI r.2 bit = side)) = false by rw [HTK.out, HA.out, decide_eq_false he]; rfl)
        clear HTK he HA
        go_wp2_with fail
        go_roundg (n + 1 - (k + 1))
        case rel => exact ⟨k + 1, by omega, rfl, by go_num, HTK2, HB⟩
        case measure => omega
    · obtain rfl : k = n := by omega
      rw [List.take_of_length_le (by rw [HN.out]; omega)] at HA
      go_wp2_with fail
      go_ret
      exact ⟨by rw [HP.out, HA.out]; rfl, HB.out⟩
def firstI (b : Nat) (fs : List WRow) (sum : IdK) (leaf : Int) : Int := match firstW b fs sum leaf with | some k => (k : Int) | none => -1
theorem refFirst9 (b : Nat) (hb : b ≤ 256) (A : Option Addr) (n c : Nat) (fs : List WRow) (sum : IdK) (hs : sum.length = 32) (leaf : Int) (w : World) (hx : WrRow w A fs) (hn : fs.length = n) (h32 : ∀ x ∈ fs, x.2.length = 32) :
    Calls Tryz.prog 30 #[.int .i64 (b : Int), .slice A n c, idV sum, .int .i64 leaf] w fun e w' => e = .returned (.int .i64 (firstI b fs sum leaf)) ∧ Below w.heap.size w w' := by
  have HX := hid hx
  have HN := hid hn
  have H32 := hid h32
  have HS := hid hs
  clear hx hn h32 hs
  go_enter Tryz.func30, Tryz.ntmps30
  have HB := hid (grow_refl w)
  apply wp_seq_k; intro _ _; apply wp_region_lit
  refine op_box (l := sum) rfl rfl rfl ?_
  intro gx w1 hgl hgu hb hr
  have XL := hid (Nat.le_trans HB.out.size hgl)
  replace HB := hid (Grow.trans HB.out hb)
  have X := hid hr; have XU := hid hgu
  clear hr hgl hgu hb
  try simp only [Act.put, List.setIfInBounds_toArray, List.set_cons_zero, List.set_cons_succ]
  go_wp2_with fail
  go_loopg [9] (b + 1) (fun z i wr => ∃ k : Nat, k ≤ b ∧ z = b + 1 - k ∧ i = .int .i64 (k : Int) ∧ Hid (firstW k fs sum leaf = none) ∧ Hid (wr.heap[gx]? = some (.cells (u8s sum).toArray 42 (0, 0))) ∧ Hid (Grow w wr))
  case atStart => exact ⟨0, by omega, by omega, rfl, rfl, X, HB⟩
  case round =>
    clear HB X
    obtain ⟨k, hk, hz, rfl, HA, X, HB⟩ := hrel
    have k0 : (0 : Int) ≤ (k : Int) := by omega
    by_cases hlt : k < b
    · have k1 : (k : Int) < (b : Int) := by omega
      have k3 : (k : Int) ≤ 256 := by omega
      have HBI := hid (fun w => refBit6 sum HS.out k (by omega) w)
      have HHI := hid (fun w h => refHidden9 A n c fs leaf (bitI sum k) k (by omega) w h HN.out H32.out)
      obtain ⟨F1, F2⟩ := first_take hlt HA.out
      have HF1 := hid F1
      have HF2 := hid F2
      clear F1 F2 HA
      go_wp2_with (first | (refine op_loadId rfl rfl rfl X.out (HS.out) ?_) |  fail)
      refine (HBI.out _).mono ?_
      rintro e w2 ⟨rfl, hb⟩
      replace HB := hid (Grow.trans HB.out hb)
      replace X := hid (grow_block X.out hb)
      clear hb
      go_wp2_with (first | (refine op_loadId rfl rfl rfl X.out (HS.out) ?_) |  fail)
      refine (HHI.out _ (HX.out.grow HB.out)).mono ?_
      rintro e w3 ⟨rfl, hb⟩
      replace HB := hid (Grow.trans HB.out hb)
      replace X := hid (grow_block X.out hb)
      clear hb
      cases hsw : shownW fs leaf k (bitI sum k) with
      | true =>
        have HA := hid (HF2.out hsw)
        clear HF1 HF2 hsw
        go_wp2_with fail
        go_roundg (b + 1 - (k + 1))
        case rel => exact ⟨k + 1, by omega, rfl, by go_num, HA, X, HB⟩
        case measure => omega
      | false =>
        have HA := hid (show firstI b fs sum leaf = (k : Int) by unfold firstI; rw [HF1.out hsw])
        clear HF1 HF2 hsw
        go_wp2_with fail
        go_ret
        exact ⟨by rw [HA.out]; rfl, HB.out⟩
    · obtain rfl : k = b := by omega
      have HA2 := hid (show firstI k fs sum leaf = -1 by unfold firstI; rw [HA.out])
      go_wp2_with fail
      go_ret
      exact ⟨by rw [HA2.out]; rfl, HB.out⟩
end Go.Proofs.YtabkaflccaklhaaGreat
end
section
/- The law's plain (rows of witness as the reference's): contract. -/
namespace Go.Proofs.YtabkaflccaklhaaGreat
open Go.RowKit
open Go.Qk hiding rotr b4
set_option maxHeartbeats 2000000
set_option maxRecDepth 100000
section
variable {ops : Array Oper} {Q : Exit → Act → World → Prop} {rest : List Oper} {o : Oper} {a : Act} {w : World}
/-- A slice of one struct. -/
theorem op_row1G {T e : TypeId} {x : Operand} {cs : List Value} {z : Value} {bytes : Nat} (hgd : o.guard = none) (ho : o.op = .buildSlice T 1 #[(0, x)]) (hx : a.eval x = .agg cs.toArray) (ht : Tryz.prog.underlying T = some (.slice e)) (hi : (Tryz.prog.info? e).map (fun i => (i.zero, i.size, i.bytes)) = some (some z, cs.length, bytes)) (hz : z.cells.size = cs.length) (hl : 0 < cs.length ∧ cs.length ≤ 1000)
    (h : ∀ g W, w.heap.size ≤ g → g < W.heap.size → Grow w W → W.heap[g]? = some (.cells cs.toArray e (0, 0)) → wpList Tryz.prog ops Q rest (a.put o.dst (.slice (some ⟨g, 0, none⟩) 1 1)) W) : wpList Tryz.prog ops Q (o :: rest) a w := by
  have hr := run_buildSlice (P := Tryz.prog) w T e cs.length 1 bytes z ht hi hz hl.1 (by omega) (by omega) [.agg cs.toArray] [cs] (by simp [Value.cells]) (fun c hc => by rw [List.mem_singleton.1 hc]) rfl
  have hp : #[(0, x)].map (fun (i, y) => (i, a.eval y)) = ((([Value.agg cs.toArray] : List Value).zipIdx 0).map Prod.swap).toArray := by simp [hx]
  have e1 : ([cs] : List (List Value)).flatten = cs := by simp
  rw [e1] at hr
  refine wpList_val (v := .slice (some ⟨w.heap.size, 0, none⟩) 1 1) (w' := w.alloc (.cells cs.toArray e)) hgd ?_ (h _ _ (Nat.le_refl _) (by simp) (grow_alloc _ _) (heap_alloc_new _ _))
  unfold execOp
  simp only [ho, hp, Sem.run_bind, Sem.run_pure, Result.andThen_ok, hr]
end
def wrAll (l : List WRow) : List Value := l.flatMap wrCells
theorem wrAll_snoc (l : List WRow) (x : WRow) : wrAll (l ++ [x]) = wrAll l ++ wrCells x := by simp [wrAll]
theorem wrAll_get : ∀ (l : List WRow), (∀ x ∈ l, x.2.length = 32) → ∀ (i j : Nat) (v : Value), i < l.length → (wrCells (l.getD i wr0))[j]? = some v → (wrAll l)[i * 33 + j]? = some v
  | [], _, i, j, v, h, _ => by simp at h
  | x :: t, h32, 0, j, v, h, hv => by
    have hj : j < 33 := by have := (List.getElem?_eq_some_iff.1 hv).1; rw [List.getD_cons_zero, wrCells_length (h32 x List.mem_cons_self)] at this; exact this
    have e : wrAll (x :: t) = wrCells x ++ wrAll t := rfl
    rw [e, List.getElem?_append_left (by rw [wrCells_length (h32 x List.mem_cons_self)]; omega), Nat.zero_mul, Nat.zero_add]
    exact hv
  | x :: t, h32, i + 1, j, v, h, hv => by
    have e : wrAll (x :: t) = wrCells x ++ wrAll t := rfl
    have hl := wrCells_length (h32 x List.mem_cons_self)
    have ih := wrAll_get t (fun y hy => h32 y (List.mem_cons_of_mem _ hy)) i j v (by simpa using h) (by simpa using hv)
    rw [e, List.getElem?_append_right (by rw [hl]; omega), hl]
    have e2 : (i + 1) * 33 + j - 33 = i * 33 + j := by omega
    rw [e2]
    exact ih
theorem run_buildRr (x : WRow) (hx : x.2.length = 32) (w : World) : (Instr.build 117 #[(0, .int .i64 x.1), (1, idV x.2)]).run Tryz.prog w = .ok (.agg (wrCells x).toArray) w := by
  obtain ⟨p, s⟩ := x
  obtain ⟨a0, a1, a2, a3, a4, a5, a6, a7, b0, b1, b2, b3, b4, b5, b6, b7, c0, c1, c2, c3, c4, c5, c6, c7, d0, d1, d2, d3, d4, d5, d6, d7, rfl⟩ := list32 hx
  exact run_build w _ _ _ (by kernel_rfl)
theorem infoRrZ : (Tryz.prog.info? 117).map (fun i => (i.zero, i.size, i.bytes)) = some (some (.agg (wrCells wr0).toArray), 33, 40) := by kernel_rfl
theorem plain09 (A : Option Addr) (n c : Nat) (fs : List WRow) (w : World) (hx : WrRow w A fs) (hn : fs.length = n) (h32 : ∀ x ∈ fs, x.2.length = 32) (hb : n ≤ 1000000) :
    Calls Tryz.prog 28 #[.slice A n c] w fun e w' => ∃ v, e = .returned v ∧ w'.ownsRow w.heap.size 117 33 v n (wrAll fs) ∧ Below w.heap.size w w' := by
  have HX := hid hx
  have HN := hid hn
  have H32 := hid h32
  have n9 : n ≤ 9223372036854775807 := by omega
  clear hx hn h32
  go_enter Tryz.func28, Tryz.ntmps28
  have HB := hid (grow_refl w)
  go_wp2_with fail
  go_loopg [3, 8] (n + 1) (fun z v i wr => ∃ k : Nat, k ≤ n ∧ z = n + 1 - k ∧ i = .int .i64 (k : Int) ∧ Hid (wr.ownsRow w.heap.size 117 33 v k (wrAll (fs.take k))) ∧ Hid (Grow w wr))
  case atStart => exact ⟨0, by omega, by omega, rfl, hid (World.ownsRow_nil _ _ _ _), HB⟩
  case round =>
    clear HB
    obtain ⟨k, hk, hz, rfl, HO, HB⟩ := hrel
    have k0 : (0 : Int) ≤ (k : Int) := by omega
    by_cases hlt : k < n
    · have k1 : (k : Int) < (n : Int) := by omega
      have hkl : k < fs.length := by rw [HN.out]; exact hlt
      obtain ⟨ad, rfl, hc⟩ := (HX.out.grow HB.out).at_ k hkl
      have HC := hid hc
      have HM := hid (wr_mem hkl)
      have HX32 := hid (H32.out _ HM.out)
      have HTK := hid (show fs.take (k + 1) = fs.take k ++ [fs.getD k wr0] by rw [List.take_succ_eq_append_getElem hkl]; simp [hkl])
      clear hc
      generalize fs.getD k wr0 = x at *
      have HCL := hid (wrCells_length HX32.out)
      have HBD := hid (run_buildRr x HX32.out)
      go_wp2_with (first | (refine wpList_load_agg rfl 116 _ rfl _ rfl (wrCells x) _ HC.out Tryz.underlying116 rfl (infoWRow HX32.out) ?_) | (refine op_allocstoreB (z := wrCells wr0) (cs := wrCells x) rfl rfl rfl rfl rfl rfl (fun _ => by kernel_rfl) (fun _ => rfl) (fun _ => rfl) (by rw [HCL.out, wrCells_length (zero8_length 32)]) (infoWRow HX32.out) (oneWr _) ?_) | fail)
      intro g7 w3 hgl hgu hb3 hr
      have H7 := hid hr
      replace HO := hid (own_grow HO.out hb3)
      replace HB := hid (Grow.trans HB.out hb3)
      clear hgl hgu hb3 hr HC
      go_wp2_with (first | (refine opG_load1 (i := 0) (v := .int .i64 x.1) rfl rfl rfl H7.out rfl Tryz.underlying3 rfl ?_) | (refine opG_loadAt (l := x.2) rfl rfl rfl (wr_id_cells H7.out) HX32.out ?_) | (refine opG_build (ps := #[(0, .int .i64 x.1), (1, idV x.2)]) rfl rfl (by simp only [List.map_toArray, List.map_cons, List.map_nil]; rfl) HBD.out ?_) | (refine op_row1G (cs := wrCells x) (z := .agg (wrCells wr0).toArray) (bytes := 40) rfl rfl rfl Tryz.underlying64 (by rw [HCL.out]; exact infoRrZ) (by rw [HCL.out]; rfl) (by rw [HCL.out]; omega) ?_) | fail)
      intro g8 w4 hgl hgu hb4 hr
      have H8 := hid hr
      replace HO := hid (own_grow HO.out hb4)
      replace HB := hid (Grow.trans HB.out hb4)
      clear hgl hgu hb4 hr H7
      have HSZ := hid HB.out.size
      go_wp2_with (first | (refine op_appOwn (n := k) (m := 1) (B := w.heap.size) (z := .agg (wrCells wr0).toArray) (size := 33) (bytes := 40) (news := wrCells x) rfl rfl Tryz.underlying64 infoRrZ rfl (by decide) rfl rfl (by rw [HCL.out]) (fun _ => ⟨_, rfl, cells_block (tl := []) (by rw [List.append_nil]; exact H8.out)⟩) (fun h => by cases h) (oneWr _) HO.out HSZ.out (by omega) (by omega) ?_) | fail)
      intro v1 wb ho1 hg1 _
      have HB1 := hid (show Grow w wb from Below.trans (show Below w.heap.size w _ from HB.out) ((fr_grown (D := fun k => _) hg1 (fun k hk => .inl hk)).below (fun k hk => (own_lt HO.out hk).1) HSZ.out))
      have HO1 := hid ho1
      clear ho1 hg1
      go_wp2_with fail
      go_roundg (n + 1 - (k + 1))
      case rel => exact ⟨k + 1, by omega, rfl, by go_num, hid (by rw [HTK.out, wrAll_snoc]; exact HO1.out), HB1⟩
      case measure => omega
    · obtain rfl : k = n := by omega
      rw [List.take_of_length_le (by rw [HN.out]; omega)] at HO
      go_wp2_with fail
      go_ret
      exact ⟨_, rfl, HO.out, HB.out⟩
theorem wrRow_own {w : World} {B n : Nat} {v : Value} {fs : List WRow} (h : w.ownsRow B 117 33 v n (wrAll fs)) (hn : fs.length = n) (h32 : ∀ x ∈ fs, x.2.length = 32) (hb : n ≤ 1000000) : ∃ A c, v = .slice A n c ∧ WrRow w A fs := by
  obtain ⟨A, c, e, hc⟩ := own_sl h
  refine ⟨A, c, e, by omega, fun hne => ?_⟩
  have hp : 0 < fs.length := List.length_pos_iff.2 hne
  obtain ⟨ad, e1, e2⟩ := hc (fun e => by
    have h1 := wrAll_get fs h32 0 0 (.int .i64 (fs.getD 0 wr0).1) hp rfl
    rw [e] at h1
    simp at h1)
  refine ⟨ad, e1, fun i hi j u hu => ?_⟩
  rw [addr_add_add]
  exact e2 _ _ (wrAll_get fs h32 i j u hi hu)
theorem id_equalIn9 (l m : List UInt8) (hl : l.length = 32) (hm : m.length = 32) (w : World) :
    (Op.equalIn 9999 42 (idV l) (idV m)).run Tryz.prog w = .ok (l == m) w := by
  obtain ⟨i, hi, h1, h2, h3⟩ := info_u8 infoU8
  have hc : Tryz.prog.cellsOf 5 = 1 := by kernel_rfl
  have := run_equalIn_array w 9998 (u8s l).toArray (u8s m).toArray Tryz.underlying42 hi
  rw [hc, List.range_eq_range', run_eqItems_u8 9997 5 l m (by omega) Tryz.underlying5 w 32 0 (by omega)] at this
  exact this
theorem wit_eql_self (k : Int) (a b : List UInt8) (leaf bit side : Int) (v : IdK) (hv : v.length = 32) (w : World) : (Go.binOp .eql 61 (.agg (witC k a b leaf bit side v).toArray) (.agg (witC k a b leaf bit side v).toArray)).run Tryz.prog w = .ok (.bool true) w := by
  have h9 := id_equalIn9 v v hv hv w
  rw [beq_self_eq_true] at h9
  unfold idV at h9
  obtain ⟨a0, a1, a2, a3, a4, a5, a6, a7, b0, b1, b2, b3, b4, b5, b6, b7, c0, c1, c2, c3, c4, c5, c6, c7, d0, d1, d2, d3, d4, d5, d6, d7, rfl⟩ := list32 hv
  unfold u8s at h9
  unfold witC u8s
  simp only [List.map_cons, List.map_nil, List.cons_append, List.nil_append] at h9 ⊢
  go_simp
end Go.Proofs.YtabkaflccaklhaaGreat
end
