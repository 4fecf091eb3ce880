/- The law MerkleSums. -/
import Derived.Test.YtffgifegaagndaaQMer6
import Derived.Test.YtffgifegaagndaaQSet2
set_option linter.unusedSimpArgs false
set_option linter.unusedVariables false
namespace Go.Proofs.Ytffgifegaagndaa
open Go.RowKit
open Go.Qk hiding rotr b4
set_option maxHeartbeats 1000000
set_option maxRecDepth 100000
theorem merkleSums (A : Option Addr) (n c : Nat) (hc : n ≤ c) (xs : List (List UInt8)) (count : Int) (hle : count ≤ 9223372036854775807) (root : List UInt8) (w : World) (hx : IdRow w A xs) (hn : xs.length = n) (h32 : ∀ s ∈ xs, s.length = 32) (hr : root.length = 32) :
    Calls Try.prog 7 #[.slice A n c, .int .i64 count, idV root] w fun e w' => e = .returned (.bool true) ∧ Below w.heap.size w w' := by
  have b1 : n ≤ 9223372036854775807 := by rw [← hn]; exact hx.1
  have HA := hid hr
  by_cases h30 : 30 < n
  · have t1 : decide ((30 : Int) < (n : Int)) = true := by simp; omega
    clear hx hn h32 hle hr
    go_enter Try.func7, Try.ntmps7
    have HB := hid (grow_refl w)
    apply wp_seq_k; intro _ _; apply wp_region_lit
    refine op_box (l := root) rfl rfl rfl ?_
    intro gb w1 hgl hgu hb hr
    have BXL := hid (Nat.le_trans HB.out.size hgl)
    replace HB := hid (Grow.trans HB.out hb)
    have BX := hid hr; have BXU := hid hgu
    clear hr hgl hgu hb
    try simp only [Act.put, List.setIfInBounds_toArray, List.set_cons_zero, List.set_cons_succ]
    go_wp2_with fail
    refine (awake21 _).mono ?_
    rintro e w2 ⟨rfl, hb⟩
    replace HB := hid (Grow.trans HB.out hb)
    replace BX := hid (grow_block BX.out hb)
    clear hb
    go_wp2
    go_ret
    exact ⟨rfl, HB.out⟩
  · have t1 : decide ((30 : Int) < (n : Int)) = false := by simp; omega
    obtain ⟨v, hv⟩ : ∃ v : Nat, max count 0 = (v : Int) := ⟨(max count 0).toNat, by omega⟩
    have HW1 := hid (fun w => mkWhole count v hv hle root hr w)
    have HW2 := hid (fun w => refWhole21 count v hv hle root hr w)
    have HX := hid hx
    have WL := wholeOf_length v root
    have hq1 := id_neq_self (wholeOf v root) WL
    have hq2 := id_guard .neq (wholeOf v root) (wholeOf v root)
    have HR4 := hid (fun w h => refRises4 A n c xs w h hn h32 (by omega))
    cases hri : risesB xs with
    | false =>
      have HS := hid (fun w h => mkSum_no A n c xs w h hn h32 (by omega) hri)
      rw [hri] at HR4
      have hq3 := id_eql_self (zero8 32) rfl
      have hq4 := id_guard .eql (zero8 32) (zero8 32)
      clear hx hn h32 hle hr hv hc hri
      generalize wholeOf v root = W at *
      go_enter Try.func7, Try.ntmps7
      have HB := hid (grow_refl w)
      apply wp_seq_k; intro _ _; apply wp_region_lit
      refine op_box (l := root) rfl rfl rfl ?_
      intro gb w3 hgl hgu hb hr
      have BXL := hid (Nat.le_trans HB.out.size hgl)
      replace HB := hid (Grow.trans HB.out hb)
      have BX := hid hr; have BXU := hid hgu
      clear hr hgl hgu hb
      try simp only [Act.put, List.setIfInBounds_toArray, List.set_cons_zero, List.set_cons_succ]
      go_wp2_with fail
      refine (HS.out _ (HX.out.grow HB.out)).mono ?_
      rintro e w4 ⟨rfl, hb⟩
      replace HB := hid (Grow.trans HB.out hb)
      replace BX := hid (grow_block BX.out hb)
      clear hb
      go_wp2_with (first |  (refine op_allocstore (l := zero8 32) rfl rfl rfl rfl rfl rfl (fun _ => rfl) ⟨fun _ => rfl, rfl⟩ ?_))
      intro g7 w5 hgl hgu hb hr
      have H7L := hid (Nat.le_trans HB.out.size hgl)
      replace HB := hid (Grow.trans HB.out hb)
      replace BX := hid (grow_block BX.out hb)
      have H7 := hid hr; have H7U := hid hgu
      clear hr hgl hgu hb
      try simp only [Act.put, List.setIfInBounds_toArray, List.set_cons_zero, List.set_cons_succ]
      go_wp2_with fail
      (refine' wp_region_head 7 0 [_, _, _, _, _, _, _] rfl (by kernel_rfl) (by kernel_rfl) ?hreg1; case' hreg1 => simp only [List.take_succ_cons, List.take_zero, List.zip_cons_cons, List.zip_nil_right, List.drop_succ_cons, List.drop_zero, List.drop_nil])
      (refine' head_val ?dw2 ?de2 ?dr2 ?dh2; (case' dw2 => rfl); (case' de2 => (first | exact fun _ _ _ => trivial | (intro t ht w; cases ht; simp [upE]))); (case' dr2 => (intro w' hw' _; go_simp; with_reducible rfl)); (case' dh2 => (try simp only [Act.put, List.setIfInBounds_toArray, List.set_cons_zero, List.set_cons_succ])))
      (refine' head_loadId (x := _) rfl ?_ rfl rfl BX.out (HA.out) ?_; (first | exact fun _ _ _ => trivial | (intro t ht w; cases ht; simp [upE])); try simp only [Act.put, List.setIfInBounds_toArray, List.set_cons_zero, List.set_cons_succ])
      (refine' head_call ?cw3 ?ce3 ?cr3 ?cc3 ?ch3; (case' cw3 => rfl); (case' ce3 => (first | exact fun _ _ _ => trivial | (intro t ht w; cases ht; simp [upE]))); (case' cr3 => (intro w'; go_simp; first | exact ⟨rfl, rfl⟩ | with_reducible rfl)); (case' cc3 => (intro w' hw' _; exact HW1.out w')); (case' ch3 => (try simp only [Act.put, List.setIfInBounds_toArray, List.set_cons_zero, List.set_cons_succ])))
      (refine' head_val ?dw4 ?de4 ?dr4 ?dh4; (case' dw4 => rfl); (case' de4 => (first | exact fun _ _ _ => trivial | (intro t ht w; cases ht; simp [upE]))); (case' dr4 => (intro w' hw' _; go_simp; with_reducible rfl)); (case' dh4 => (try simp only [Act.put, List.setIfInBounds_toArray, List.set_cons_zero, List.set_cons_succ])))
      (refine' head_loadId (x := _) rfl ?_ rfl rfl BX.out (HA.out) ?_; (first | exact fun _ _ _ => trivial | (intro t ht w; cases ht; simp [upE])); try simp only [Act.put, List.setIfInBounds_toArray, List.set_cons_zero, List.set_cons_succ])
      (refine' head_call ?cw5 ?ce5 ?cr5 ?cc5 ?ch5; (case' cw5 => rfl); (case' ce5 => (first | exact fun _ _ _ => trivial | (intro t ht w; cases ht; simp [upE]))); (case' cr5 => (intro w'; go_simp; first | exact ⟨rfl, rfl⟩ | with_reducible rfl)); (case' cc5 => (intro w' hw' _; exact HW2.out w')); (case' ch5 => (try simp only [Act.put, List.setIfInBounds_toArray, List.set_cons_zero, List.set_cons_succ])))
      (refine' head_val ?dw6 ?de6 ?dr6 ?dh6; (case' dw6 => rfl); (case' de6 => (first | exact fun _ _ _ => trivial | (intro t ht w; cases ht; simp [upE]))); (case' dr6 => (intro w' hw' _; go_simp; with_reducible rfl)); (case' dh6 => (try simp only [Act.put, List.setIfInBounds_toArray, List.set_cons_zero, List.set_cons_succ])))
      refine head_nil ?_
      intro w6 hb _
      replace HB := hid (Grow.trans HB.out hb)
      replace BX := hid (grow_block BX.out hb)
      replace H7 := hid (grow_block H7.out hb)
      clear hb
      refine wpList_nil ?_
      clear hq1 hq2
      go_wp2_with fail
      refine (HR4.out _ (HX.out.grow HB.out)).mono ?_
      rintro e w7 ⟨rfl, hb⟩
      replace HB := hid (Grow.trans HB.out hb)
      replace BX := hid (grow_block BX.out hb)
      replace H7 := hid (grow_block H7.out hb)
      clear hb
      go_wp2_with (first | (refine op_loadId rfl rfl rfl H7.out rfl ?_) | (refine op_buildId rfl rfl ?_) | fail)
      refine (awake21 _).mono ?_
      rintro e w8 ⟨rfl, hb⟩
      replace HB := hid (Grow.trans HB.out hb)
      replace H7 := hid (grow_block H7.out hb)
      clear hb
      go_wp2
      go_ret
      exact ⟨rfl, HB.out⟩
    | true =>
      have HS := hid (fun w h => mkSum A n c xs w h hn hc h32 (by omega) hri)
      have HRO := hid (fun w h => mkRoot n A n c xs w (by omega) h hn hc h32 (by omega))
      have HRR := hid (fun w h => refRoot n A n c xs w (by omega) h hn hc h32 (by omega))
      have HSR := hid (fun w h => refSum21 A n c xs w h hn hc h32 (by omega))
      rw [hri] at HR4
      have RL := rootL_length xs
      have SL := hid (wholeOf_length xs.length (rootL xs))
      have hq3 := id_eql_self (rootL xs) RL
      have hq4 := id_guard .eql (rootL xs) (rootL xs)
      have SLL : (sumV xs).length = 32 := SL.out
      have SLH := hid SLL
      have hq5 := id_eql_self (sumV xs) SLL
      have hq6 := id_guard .eql (sumV xs) (sumV xs)
      clear hx hn h32 hle hr hv hc hri RL SL SLL
      generalize wholeOf v root = W at *
      generalize rootL xs = R at *
      generalize sumV xs = S at *
      go_enter Try.func7, Try.ntmps7
      have HB := hid (grow_refl w)
      apply wp_seq_k; intro _ _; apply wp_region_lit
      refine op_box (l := root) rfl rfl rfl ?_
      intro gb w9 hgl hgu hb hr
      have BXL := hid (Nat.le_trans HB.out.size hgl)
      replace HB := hid (Grow.trans HB.out hb)
      have BX := hid hr; have BXU := hid hgu
      clear hr hgl hgu hb
      try simp only [Act.put, List.setIfInBounds_toArray, List.set_cons_zero, List.set_cons_succ]
      go_wp2_with fail
      refine (HS.out _ (HX.out.grow HB.out)).mono ?_
      rintro e w10 ⟨rfl, hb⟩
      replace HB := hid (Grow.trans HB.out hb)
      replace BX := hid (grow_block BX.out hb)
      clear hb
      go_wp2_with (first |  (refine op_allocstore (l := S) rfl rfl rfl rfl rfl rfl (fun _ => rfl) ⟨fun _ => rfl, SLH.out⟩ ?_))
      intro g7 w11 hgl hgu hb hr
      have H7L := hid (Nat.le_trans HB.out.size hgl)
      replace HB := hid (Grow.trans HB.out hb)
      replace BX := hid (grow_block BX.out hb)
      have H7 := hid hr; have H7U := hid hgu
      clear hr hgl hgu hb
      try simp only [Act.put, List.setIfInBounds_toArray, List.set_cons_zero, List.set_cons_succ]
      go_wp2_with fail
      (refine' wp_region_head 7 0 [_, _, _, _, _, _, _] rfl (by kernel_rfl) (by kernel_rfl) ?hreg7; case' hreg7 => simp only [List.take_succ_cons, List.take_zero, List.zip_cons_cons, List.zip_nil_right, List.drop_succ_cons, List.drop_zero, List.drop_nil])
      (refine' head_val ?dw8 ?de8 ?dr8 ?dh8; (case' dw8 => rfl); (case' de8 => (first | exact fun _ _ _ => trivial | (intro t ht w; cases ht; simp [upE]))); (case' dr8 => (intro w' hw' _; go_simp; with_reducible rfl)); (case' dh8 => (try simp only [Act.put, List.setIfInBounds_toArray, List.set_cons_zero, List.set_cons_succ])))
      (refine' head_loadId (x := _) rfl ?_ rfl rfl BX.out (HA.out) ?_; (first | exact fun _ _ _ => trivial | (intro t ht w; cases ht; simp [upE])); try simp only [Act.put, List.setIfInBounds_toArray, List.set_cons_zero, List.set_cons_succ])
      (refine' head_call ?cw9 ?ce9 ?cr9 ?cc9 ?ch9; (case' cw9 => rfl); (case' ce9 => (first | exact fun _ _ _ => trivial | (intro t ht w; cases ht; simp [upE]))); (case' cr9 => (intro w'; go_simp; first | exact ⟨rfl, rfl⟩ | with_reducible rfl)); (case' cc9 => (intro w' hw' _; exact HW1.out w')); (case' ch9 => (try simp only [Act.put, List.setIfInBounds_toArray, List.set_cons_zero, List.set_cons_succ])))
      (refine' head_val ?dw10 ?de10 ?dr10 ?dh10; (case' dw10 => rfl); (case' de10 => (first | exact fun _ _ _ => trivial | (intro t ht w; cases ht; simp [upE]))); (case' dr10 => (intro w' hw' _; go_simp; with_reducible rfl)); (case' dh10 => (try simp only [Act.put, List.setIfInBounds_toArray, List.set_cons_zero, List.set_cons_succ])))
      (refine' head_loadId (x := _) rfl ?_ rfl rfl BX.out (HA.out) ?_; (first | exact fun _ _ _ => trivial | (intro t ht w; cases ht; simp [upE])); try simp only [Act.put, List.setIfInBounds_toArray, List.set_cons_zero, List.set_cons_succ])
      (refine' head_call ?cw11 ?ce11 ?cr11 ?cc11 ?ch11; (case' cw11 => rfl); (case' ce11 => (first | exact fun _ _ _ => trivial | (intro t ht w; cases ht; simp [upE]))); (case' cr11 => (intro w'; go_simp; first | exact ⟨rfl, rfl⟩ | with_reducible rfl)); (case' cc11 => (intro w' hw' _; exact HW2.out w')); (case' ch11 => (try simp only [Act.put, List.setIfInBounds_toArray, List.set_cons_zero, List.set_cons_succ])))
      (refine' head_val ?dw12 ?de12 ?dr12 ?dh12; (case' dw12 => rfl); (case' de12 => (first | exact fun _ _ _ => trivial | (intro t ht w; cases ht; simp [upE]))); (case' dr12 => (intro w' hw' _; go_simp; with_reducible rfl)); (case' dh12 => (try simp only [Act.put, List.setIfInBounds_toArray, List.set_cons_zero, List.set_cons_succ])))
      refine head_nil ?_
      intro w12 hb _
      replace HB := hid (Grow.trans HB.out hb)
      replace BX := hid (grow_block BX.out hb)
      replace H7 := hid (grow_block H7.out hb)
      clear hb
      refine wpList_nil ?_
      clear hq1 hq2
      go_wp2_with fail
      refine (HR4.out _ (HX.out.grow HB.out)).mono ?_
      rintro e w13 ⟨rfl, hb⟩
      replace HB := hid (Grow.trans HB.out hb)
      replace BX := hid (grow_block BX.out hb)
      replace H7 := hid (grow_block H7.out hb)
      clear hb
      go_wp2_with fail
      (refine' wp_region_head 19 0 [_, _, _, _, _, _, _, _, _, _, _, _, _, _, _, _, _, _, _] rfl (by kernel_rfl) (by kernel_rfl) ?hreg13; case' hreg13 => simp only [List.take_succ_cons, List.take_zero, List.zip_cons_cons, List.zip_nil_right, List.drop_succ_cons, List.drop_zero, List.drop_nil])
      (refine' head_val ?dw14 ?de14 ?dr14 ?dh14; (case' dw14 => rfl); (case' de14 => (first | exact fun _ _ _ => trivial | (intro t ht w; cases ht; simp [upE]))); (case' dr14 => (intro w' hw' _; go_simp; with_reducible rfl)); (case' dh14 => (try simp only [Act.put, List.setIfInBounds_toArray, List.set_cons_zero, List.set_cons_succ])))
      (refine' head_call ?cw15 ?ce15 ?cr15 ?cc15 ?ch15; (case' cw15 => rfl); (case' ce15 => (first | exact fun _ _ _ => trivial | (intro t ht w; cases ht; simp [upE]))); (case' cr15 => (intro w'; go_simp; first | exact ⟨rfl, rfl⟩ | with_reducible rfl)); (case' cc15 => (intro w' hw' _; exact HRO.out w' (HX.out.grow (HB.out.trans hw')))); (case' ch15 => (try simp only [Act.put, List.setIfInBounds_toArray, List.set_cons_zero, List.set_cons_succ])))
      (refine' head_val ?dw16 ?de16 ?dr16 ?dh16; (case' dw16 => rfl); (case' de16 => (first | exact fun _ _ _ => trivial | (intro t ht w; cases ht; simp [upE]))); (case' dr16 => (intro w' hw' _; go_simp; with_reducible rfl)); (case' dh16 => (try simp only [Act.put, List.setIfInBounds_toArray, List.set_cons_zero, List.set_cons_succ])))
      (refine' head_call ?cw17 ?ce17 ?cr17 ?cc17 ?ch17; (case' cw17 => rfl); (case' ce17 => (first | exact fun _ _ _ => trivial | (intro t ht w; cases ht; simp [upE]))); (case' cr17 => (intro w'; go_simp; first | exact ⟨rfl, rfl⟩ | with_reducible rfl)); (case' cc17 => (intro w' hw' _; exact HRR.out w' (HX.out.grow (HB.out.trans hw')))); (case' ch17 => (try simp only [Act.put, List.setIfInBounds_toArray, List.set_cons_zero, List.set_cons_succ])))
      (refine' head_val ?dw18 ?de18 ?dr18 ?dh18; (case' dw18 => rfl); (case' de18 => (first | exact fun _ _ _ => trivial | (intro t ht w; cases ht; simp [upE]))); (case' dr18 => (intro w' hw' _; go_simp; with_reducible rfl)); (case' dh18 => (try simp only [Act.put, List.setIfInBounds_toArray, List.set_cons_zero, List.set_cons_succ]))); (refine' head_val ?dw19 ?de19 ?dr19 ?dh19; (case' dw19 => rfl); (case' de19 => (first | exact fun _ _ _ => trivial | (intro t ht w; cases ht; simp [upE]))); (case' dr19 => (intro w' hw' _; go_simp; with_reducible rfl)); (case' dh19 => (try simp only [Act.put, List.setIfInBounds_toArray, List.set_cons_zero, List.set_cons_succ])))
      (refine' head_loadId (x := _) rfl ?_ rfl rfl H7.out (SLH.out) ?_; (first | exact fun _ _ _ => trivial | (intro t ht w; cases ht; simp [upE])); try simp only [Act.put, List.setIfInBounds_toArray, List.set_cons_zero, List.set_cons_succ])
      (refine' head_val ?dw20 ?de20 ?dr20 ?dh20; (case' dw20 => rfl); (case' de20 => (first | exact fun _ _ _ => trivial | (intro t ht w; cases ht; simp [upE]))); (case' dr20 => (intro w' hw' _; go_simp; with_reducible rfl)); (case' dh20 => (try simp only [Act.put, List.setIfInBounds_toArray, List.set_cons_zero, List.set_cons_succ])))
      (refine' head_call ?cw21 ?ce21 ?cr21 ?cc21 ?ch21; (case' cw21 => rfl); (case' ce21 => (first | exact fun _ _ _ => trivial | (intro t ht w; cases ht; simp [upE]))); (case' cr21 => (intro w'; go_simp; first | exact ⟨rfl, rfl⟩ | with_reducible rfl)); (case' cc21 => (intro w' hw' _; exact HSR.out w' (HX.out.grow (HB.out.trans hw')))); (case' ch21 => (try simp only [Act.put, List.setIfInBounds_toArray, List.set_cons_zero, List.set_cons_succ])))
      (refine' head_val ?dw22 ?de22 ?dr22 ?dh22; (case' dw22 => rfl); (case' de22 => (first | exact fun _ _ _ => trivial | (intro t ht w; cases ht; simp [upE]))); (case' dr22 => (intro w' hw' _; go_simp; with_reducible rfl)); (case' dh22 => (try simp only [Act.put, List.setIfInBounds_toArray, List.set_cons_zero, List.set_cons_succ]))); (refine' head_val ?dw23 ?de23 ?dr23 ?dh23; (case' dw23 => rfl); (case' de23 => (first | exact fun _ _ _ => trivial | (intro t ht w; cases ht; simp [upE]))); (case' dr23 => (intro w' hw' _; go_simp; with_reducible rfl)); (case' dh23 => (try simp only [Act.put, List.setIfInBounds_toArray, List.set_cons_zero, List.set_cons_succ]))); (refine' head_val ?dw24 ?de24 ?dr24 ?dh24; (case' dw24 => rfl); (case' de24 => (first | exact fun _ _ _ => trivial | (intro t ht w; cases ht; simp [upE]))); (case' dr24 => (intro w' hw' _; go_simp; with_reducible rfl)); (case' dh24 => (try simp only [Act.put, List.setIfInBounds_toArray, List.set_cons_zero, List.set_cons_succ]))); (refine' head_val ?dw25 ?de25 ?dr25 ?dh25; (case' dw25 => rfl); (case' de25 => (first | exact fun _ _ _ => trivial | (intro t ht w; cases ht; simp [upE]))); (case' dr25 => (intro w' hw' _; go_simp; with_reducible rfl)); (case' dh25 => (try simp only [Act.put, List.setIfInBounds_toArray, List.set_cons_zero, List.set_cons_succ]))); (refine' head_val ?dw26 ?de26 ?dr26 ?dh26; (case' dw26 => rfl); (case' de26 => (first | exact fun _ _ _ => trivial | (intro t ht w; cases ht; simp [upE]))); (case' dr26 => (intro w' hw' _; go_simp; with_reducible rfl)); (case' dh26 => (try simp only [Act.put, List.setIfInBounds_toArray, List.set_cons_zero, List.set_cons_succ]))); (refine' head_val ?dw27 ?de27 ?dr27 ?dh27; (case' dw27 => rfl); (case' de27 => (first | exact fun _ _ _ => trivial | (intro t ht w; cases ht; simp [upE]))); (case' dr27 => (intro w' hw' _; go_simp; with_reducible rfl)); (case' dh27 => (try simp only [Act.put, List.setIfInBounds_toArray, List.set_cons_zero, List.set_cons_succ]))); (refine' head_val ?dw28 ?de28 ?dr28 ?dh28; (case' dw28 => rfl); (case' de28 => (first | exact fun _ _ _ => trivial | (intro t ht w; cases ht; simp [upE]))); (case' dr28 => (intro w' hw' _; go_simp; with_reducible rfl)); (case' dh28 => (try simp only [Act.put, List.setIfInBounds_toArray, List.set_cons_zero, List.set_cons_succ])))
      (refine' head_call ?cw29 ?ce29 ?cr29 ?cc29 ?ch29; (case' cw29 => rfl); (case' ce29 => (first | exact fun _ _ _ => trivial | (intro t ht w; cases ht; simp [upE]))); (case' cr29 => (intro w'; go_simp; first | exact ⟨rfl, rfl⟩ | with_reducible rfl)); (case' cc29 => (intro w' hw' _; exact awake21 w')); (case' ch29 => (try simp only [Act.put, List.setIfInBounds_toArray, List.set_cons_zero, List.set_cons_succ])))
      (refine' head_val ?dw30 ?de30 ?dr30 ?dh30; (case' dw30 => rfl); (case' de30 => (first | exact fun _ _ _ => trivial | (intro t ht w; cases ht; simp [upE]))); (case' dr30 => (intro w' hw' _; go_simp; with_reducible rfl)); (case' dh30 => (try simp only [Act.put, List.setIfInBounds_toArray, List.set_cons_zero, List.set_cons_succ]))); (refine' head_val ?dw31 ?de31 ?dr31 ?dh31; (case' dw31 => rfl); (case' de31 => (first | exact fun _ _ _ => trivial | (intro t ht w; cases ht; simp [upE]))); (case' dr31 => (intro w' hw' _; go_simp; with_reducible rfl)); (case' dh31 => (try simp only [Act.put, List.setIfInBounds_toArray, List.set_cons_zero, List.set_cons_succ])))
      refine head_nil ?_
      intro w14 hb _
      replace HB := hid (Grow.trans HB.out hb)
      replace BX := hid (grow_block BX.out hb)
      replace H7 := hid (grow_block H7.out hb)
      clear hb
      refine wpList_nil ?_
      go_wp2_with fail
      go_ret
      exact ⟨rfl, HB.out⟩
end Go.Proofs.Ytffgifegaagndaa
