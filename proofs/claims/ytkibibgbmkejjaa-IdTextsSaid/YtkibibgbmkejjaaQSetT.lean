/- The law IdTexts: walk. -/
import Derived.Test.YtkibibgbmkejjaaQSetK
import Derived.Test.YtkibibgbmkejjaaQIdC
import Derived.Test.YtkibibgbmkejjaaQId4
import Derived.Test.YtkibibgbmkejjaaQId7
import Derived.Test.YtkibibgbmkejjaaQId9
set_option linter.unusedSimpArgs false
set_option linter.unusedVariables false
namespace Go.Proofs.Ytkibibgbmkejjaa
open Go.RowKit
open Go.Qk hiding rotr b4
set_option maxHeartbeats 2000000
set_option maxRecDepth 100000
theorem id_neq_self (F : List UInt8) (hF : F.length = 32) (w : World) : (Go.binOp .neq 23 (idV F) (idV F)).run Try.prog w = .ok (.bool false) w := by
  rw [id_neq F F hF hF w, beq_self_eq_true]
  rfl
theorem str_eq (l : List UInt8) : ((bs l).toList == (bs l).toList) = true := beq_self_eq_true _
theorem str_ne (l : List UInt8) : ((bs l).toList != (bs l).toList) = false := by simp
theorem idTexts (a b : List UInt8) (ha : a.length = 32) (hb : b.length = 32) (s : ByteArray) (hsz : s.size ≤ 140737488351232) (i : Int) (w : World) :
    Calls Try.prog 3 #[idV a, idV b, .string s, .int .i64 i] w fun e w' => e = .returned (.bool true) ∧ Below w.heap.size w w' := by
  obtain ⟨l, rfl⟩ : ∃ l, s = bs l := ⟨bl s, (bs_bl s).symm⟩
  rw [bs_size] at hsz
  have hs := bs_size l
  have HA := hid ha
  have HBL := hid hb
  clear ha hb
  by_cases h100 : 100 < l.length
  · have t1 : decide ((100 : Int) < (l.length : Int)) = true := by simp; omega
    go_enter Try.func3, Try.ntmps3
    have HB := hid (grow_refl w)
    apply wp_seq_k; intro _ _; apply wp_region_lit
    refine op_box (l := a) rfl rfl rfl ?_
    intro gx w1 hgl hgu hb hr
    have XL := hid (Nat.le_trans HB.out.size hgl)
    replace HB := hid (Grow.trans HB.out hb)
    have X := hid hr; have XU := hid hgu
    clear hr hgl hgu hb
    try simp only [Act.put, List.setIfInBounds_toArray, List.set_cons_zero, List.set_cons_succ]
    refine op_box (l := b) rfl rfl rfl ?_
    intro gy w2 hgl hgu hb hr
    have YL := hid (Nat.le_trans HB.out.size hgl)
    replace HB := hid (Grow.trans HB.out hb)
    replace X := hid (grow_block X.out hb)
    have Y := hid hr; have YU := hid hgu
    clear hr hgl hgu hb
    try simp only [Act.put, List.setIfInBounds_toArray, List.set_cons_zero, List.set_cons_succ]
    go_wp2_with fail
    refine (awake04 _).mono ?_
    rintro e w3 ⟨rfl, hb⟩
    replace HB := hid (Grow.trans HB.out hb)
    replace X := hid (grow_block X.out hb)
    replace Y := hid (grow_block Y.out hb)
    clear hb
    go_wp2
    go_ret
    exact ⟨rfl, HB.out⟩
  · have t1 : decide ((100 : Int) < (l.length : Int)) = false := by simp; omega
    have hl100 : l.length ≤ 100 := by omega
    obtain ⟨hp1, hp2⟩ := hex_parse a HA.out
    have HP1 := hid (show parseErr (hexOf a 32) = 0 by rw [parseErr, if_pos hp1])
    have HP2 := hid hp2
    have HX64 := hid (hexOf_length a 32 (by have := HA.out; omega))
    clear hp1 hp2
    go_enter Try.func3, Try.ntmps3
    have HB := hid (grow_refl w)
    apply wp_seq_k; intro _ _; apply wp_region_lit
    refine op_box (l := a) rfl rfl rfl ?_
    intro gx w4 hgl hgu hb hr
    have XL := hid (Nat.le_trans HB.out.size hgl)
    replace HB := hid (Grow.trans HB.out hb)
    have X := hid hr; have XU := hid hgu
    clear hr hgl hgu hb
    try simp only [Act.put, List.setIfInBounds_toArray, List.set_cons_zero, List.set_cons_succ]
    refine op_box (l := b) rfl rfl rfl ?_
    intro gy w5 hgl hgu hb hr
    have YL := hid (Nat.le_trans HB.out.size hgl)
    replace HB := hid (Grow.trans HB.out hb)
    replace X := hid (grow_block X.out hb)
    have Y := hid hr; have YU := hid hgu
    clear hr hgl hgu hb
    try simp only [Act.put, List.setIfInBounds_toArray, List.set_cons_zero, List.set_cons_succ]
    go_wp2_with (first | (refine op_loadId rfl rfl rfl X.out (HA.out) ?_) | (refine op_loadId rfl rfl rfl Y.out (HBL.out) ?_) |  fail)
    refine (idHex a HA.out _).mono ?_
    rintro e w6 ⟨rfl, hb⟩
    replace HB := hid (Grow.trans HB.out hb)
    replace X := hid (grow_block X.out hb)
    replace Y := hid (grow_block Y.out hb)
    clear hb
    go_wp2_with fail
    refine (idParse (hexOf a 32) (by have := HX64.out; omega) _).mono ?_
    rintro e w7 ⟨rfl, hb⟩
    replace HB := hid (Grow.trans HB.out hb)
    replace X := hid (grow_block X.out hb)
    replace Y := hid (grow_block Y.out hb)
    clear hb
    rw [HP1.out, HP2.out]
    go_wp2_with (first | (refine op_loadId rfl rfl rfl X.out (HA.out) ?_) | (refine op_loadId rfl rfl rfl Y.out (HBL.out) ?_) |  (refine op_allocstore (l := a) rfl rfl rfl rfl rfl rfl (fun _ => rfl) ⟨fun _ => rfl, HA.out⟩ ?_))
    intro g10 w8 hgl hgu hb hr
    have H10L := hid (Nat.le_trans HB.out.size hgl)
    replace HB := hid (Grow.trans HB.out hb)
    replace X := hid (grow_block X.out hb)
    replace Y := hid (grow_block Y.out hb)
    have H10 := hid hr; have H10U := hid hgu
    clear hr hgl hgu hb
    try simp only [Act.put, List.setIfInBounds_toArray, List.set_cons_zero, List.set_cons_succ]
    go_wp2_with fail
    have hq1 := id_neq_self a HA.out
    have hq2 := id_guard .neq a a
    have hq3 := str_eq (hexOf a 32)
    have hq4 := str_ne (hexOf a 32)
    have HLS := hid (fun w => idLess a b HA.out HBL.out w)
    have HLR := hid (fun w => refLess a b HA.out HBL.out w)
    generalize lexLess a b = z at *
    (refine' wp_region_head 22 0 [_, _, _, _, _, _, _, _, _, _, _, _, _, _, _, _, _, _, _, _, _, _] rfl (by kernel_rfl) (by kernel_rfl) ?hreg1; case' hreg1 => simp only [List.take_succ_cons, List.take_zero, List.zip_cons_cons, List.zip_nil_right, List.drop_succ_cons, List.drop_zero, List.drop_nil])
    (refine' head_val ?dw2 ?de2 ?dr2 ?dh2; (case' dw2 => rfl); (case' de2 => (first | exact fun _ _ _ => trivial | (intro t ht w; cases ht; simp [upE]))); (case' dr2 => (intro w' hw' _; go_simp; with_reducible rfl)); (case' dh2 => (try simp only [Act.put, List.setIfInBounds_toArray, List.set_cons_zero, List.set_cons_succ])))
    (refine' head_loadId (x := _) rfl ?_ rfl rfl X.out (HA.out) ?_; (first | exact fun _ _ _ => trivial | (intro t ht w; cases ht; simp [upE])); try simp only [Act.put, List.setIfInBounds_toArray, List.set_cons_zero, List.set_cons_succ])
    (refine' head_call ?cw3 ?ce3 ?cr3 ?cc3 ?ch3; (case' cw3 => rfl); (case' ce3 => (first | exact fun _ _ _ => trivial | (intro t ht w; cases ht; simp [upE]))); (case' cr3 => (intro w'; go_simp; first | exact ⟨rfl, rfl⟩ | with_reducible rfl)); (case' cc3 => (intro w' hw' _; exact refHex a HA.out w')); (case' ch3 => (try simp only [Act.put, List.setIfInBounds_toArray, List.set_cons_zero, List.set_cons_succ])))
    (refine' head_val ?dw4 ?de4 ?dr4 ?dh4; (case' dw4 => rfl); (case' de4 => (first | exact fun _ _ _ => trivial | (intro t ht w; cases ht; simp [upE]))); (case' dr4 => (intro w' hw' _; go_simp; with_reducible rfl)); (case' dh4 => (try simp only [Act.put, List.setIfInBounds_toArray, List.set_cons_zero, List.set_cons_succ]))); (refine' head_val ?dw5 ?de5 ?dr5 ?dh5; (case' dw5 => rfl); (case' de5 => (first | exact fun _ _ _ => trivial | (intro t ht w; cases ht; simp [upE]))); (case' dr5 => (intro w' hw' _; go_simp; with_reducible rfl)); (case' dh5 => (try simp only [Act.put, List.setIfInBounds_toArray, List.set_cons_zero, List.set_cons_succ])))
    (refine' head_loadId (x := _) rfl ?_ rfl rfl H10.out (HA.out) ?_; (first | exact fun _ _ _ => trivial | (intro t ht w; cases ht; simp [upE])); try simp only [Act.put, List.setIfInBounds_toArray, List.set_cons_zero, List.set_cons_succ])
    (refine' head_loadId (x := _) rfl ?_ rfl rfl X.out (HA.out) ?_; (first | exact fun _ _ _ => trivial | (intro t ht w; cases ht; simp [upE])); try simp only [Act.put, List.setIfInBounds_toArray, List.set_cons_zero, List.set_cons_succ])
    (refine' head_val ?dw6 ?de6 ?dr6 ?dh6; (case' dw6 => rfl); (case' de6 => (first | exact fun _ _ _ => trivial | (intro t ht w; cases ht; simp [upE]))); (case' dr6 => (intro w' hw' _; go_simp; with_reducible rfl)); (case' dh6 => (try simp only [Act.put, List.setIfInBounds_toArray, List.set_cons_zero, List.set_cons_succ]))); (refine' head_val ?dw7 ?de7 ?dr7 ?dh7; (case' dw7 => rfl); (case' de7 => (first | exact fun _ _ _ => trivial | (intro t ht w; cases ht; simp [upE]))); (case' dr7 => (intro w' hw' _; go_simp; with_reducible rfl)); (case' dh7 => (try simp only [Act.put, List.setIfInBounds_toArray, List.set_cons_zero, List.set_cons_succ]))); (refine' head_val ?dw8 ?de8 ?dr8 ?dh8; (case' dw8 => rfl); (case' de8 => (first | exact fun _ _ _ => trivial | (intro t ht w; cases ht; simp [upE]))); (case' dr8 => (intro w' hw' _; go_simp; with_reducible rfl)); (case' dh8 => (try simp only [Act.put, List.setIfInBounds_toArray, List.set_cons_zero, List.set_cons_succ]))); (refine' head_val ?dw9 ?de9 ?dr9 ?dh9; (case' dw9 => rfl); (case' de9 => (first | exact fun _ _ _ => trivial | (intro t ht w; cases ht; simp [upE]))); (case' dr9 => (intro w' hw' _; go_simp; with_reducible rfl)); (case' dh9 => (try simp only [Act.put, List.setIfInBounds_toArray, List.set_cons_zero, List.set_cons_succ]))); (refine' head_val ?dw10 ?de10 ?dr10 ?dh10; (case' dw10 => rfl); (case' de10 => (first | exact fun _ _ _ => trivial | (intro t ht w; cases ht; simp [upE]))); (case' dr10 => (intro w' hw' _; go_simp; with_reducible rfl)); (case' dh10 => (try simp only [Act.put, List.setIfInBounds_toArray, List.set_cons_zero, List.set_cons_succ]))); (refine' head_val ?dw11 ?de11 ?dr11 ?dh11; (case' dw11 => rfl); (case' de11 => (first | exact fun _ _ _ => trivial | (intro t ht w; cases ht; simp [upE]))); (case' dr11 => (intro w' hw' _; go_simp; with_reducible rfl)); (case' dh11 => (try simp only [Act.put, List.setIfInBounds_toArray, List.set_cons_zero, List.set_cons_succ]))); (refine' head_val ?dw12 ?de12 ?dr12 ?dh12; (case' dw12 => rfl); (case' de12 => (first | exact fun _ _ _ => trivial | (intro t ht w; cases ht; simp [upE]))); (case' dr12 => (intro w' hw' _; go_simp; with_reducible rfl)); (case' dh12 => (try simp only [Act.put, List.setIfInBounds_toArray, List.set_cons_zero, List.set_cons_succ])))
    (refine' head_loadId (x := _) rfl ?_ rfl rfl X.out (HA.out) ?_; (first | exact fun _ _ _ => trivial | (intro t ht w; cases ht; simp [upE])); try simp only [Act.put, List.setIfInBounds_toArray, List.set_cons_zero, List.set_cons_succ])
    (refine' head_loadId (x := _) rfl ?_ rfl rfl Y.out (HBL.out) ?_; (first | exact fun _ _ _ => trivial | (intro t ht w; cases ht; simp [upE])); try simp only [Act.put, List.setIfInBounds_toArray, List.set_cons_zero, List.set_cons_succ])
    (refine' head_call ?cw13 ?ce13 ?cr13 ?cc13 ?ch13; (case' cw13 => rfl); (case' ce13 => (first | exact fun _ _ _ => trivial | (intro t ht w; cases ht; simp [upE]))); (case' cr13 => (intro w'; go_simp; first | exact ⟨rfl, rfl⟩ | with_reducible rfl)); (case' cc13 => (intro w' hw' _; exact HLS.out w')); (case' ch13 => (try simp only [Act.put, List.setIfInBounds_toArray, List.set_cons_zero, List.set_cons_succ])))
    (refine' head_loadId (x := _) rfl ?_ rfl rfl X.out (HA.out) ?_; (first | exact fun _ _ _ => trivial | (intro t ht w; cases ht; simp [upE])); try simp only [Act.put, List.setIfInBounds_toArray, List.set_cons_zero, List.set_cons_succ])
    (refine' head_loadId (x := _) rfl ?_ rfl rfl Y.out (HBL.out) ?_; (first | exact fun _ _ _ => trivial | (intro t ht w; cases ht; simp [upE])); try simp only [Act.put, List.setIfInBounds_toArray, List.set_cons_zero, List.set_cons_succ])
    (refine' head_call ?cw14 ?ce14 ?cr14 ?cc14 ?ch14; (case' cw14 => rfl); (case' ce14 => (first | exact fun _ _ _ => trivial | (intro t ht w; cases ht; simp [upE]))); (case' cr14 => (intro w'; go_simp; first | exact ⟨rfl, rfl⟩ | with_reducible rfl)); (case' cc14 => (intro w' hw' _; exact HLR.out w')); (case' ch14 => (try simp only [Act.put, List.setIfInBounds_toArray, List.set_cons_zero, List.set_cons_succ])))
    (refine' head_val ?dw15 ?de15 ?dr15 ?dh15; (case' dw15 => rfl); (case' de15 => (first | exact fun _ _ _ => trivial | (intro t ht w; cases ht; simp [upE]))); (case' dr15 => (intro w' hw' _; go_simp; with_reducible rfl)); (case' dh15 => (try simp only [Act.put, List.setIfInBounds_toArray, List.set_cons_zero, List.set_cons_succ]))); (refine' head_val ?dw16 ?de16 ?dr16 ?dh16; (case' dw16 => rfl); (case' de16 => (first | exact fun _ _ _ => trivial | (intro t ht w; cases ht; simp [upE]))); (case' dr16 => (intro w' hw' _; go_simp; with_reducible rfl)); (case' dh16 => (try simp only [Act.put, List.setIfInBounds_toArray, List.set_cons_zero, List.set_cons_succ])))
    refine head_nil ?_
    intro w9 hb _
    replace HB := hid (Grow.trans HB.out hb)
    replace X := hid (grow_block X.out hb)
    replace Y := hid (grow_block Y.out hb)
    replace H10 := hid (grow_block H10.out hb)
    clear hb
    refine wpList_nil ?_
    clear hq1 hq2 hq3 hq4 HLS HLR
    go_wp2_with fail
    refine (idParse l (by omega) _).mono ?_
    rintro e w10 ⟨rfl, hb⟩
    replace HB := hid (Grow.trans HB.out hb)
    replace X := hid (grow_block X.out hb)
    replace Y := hid (grow_block Y.out hb)
    replace H10 := hid (grow_block H10.out hb)
    clear hb
    have HPL := hid (parse_length l)
    go_wp2_with (first | (refine op_loadId rfl rfl rfl X.out (HA.out) ?_) | (refine op_loadId rfl rfl rfl Y.out (HBL.out) ?_) | (refine op_loadId rfl rfl rfl H10.out (HA.out) ?_) |  (refine op_allocstore (l := parse l) rfl rfl rfl rfl rfl rfl (fun _ => rfl) ⟨fun _ => rfl, HPL.out⟩ ?_))
    intro g12 w11 hgl hgu hb hr
    have H12L := hid (Nat.le_trans HB.out.size hgl)
    replace HB := hid (Grow.trans HB.out hb)
    replace X := hid (grow_block X.out hb)
    replace Y := hid (grow_block Y.out hb)
    replace H10 := hid (grow_block H10.out hb)
    have H12 := hid hr; have H12U := hid hgu
    clear hr hgl hgu hb
    try simp only [Act.put, List.setIfInBounds_toArray, List.set_cons_zero, List.set_cons_succ]
    go_wp2_with fail
    refine (refParse l (by omega) _).mono ?_
    rintro e w12 ⟨rfl, hb⟩
    replace HB := hid (Grow.trans HB.out hb)
    replace X := hid (grow_block X.out hb)
    replace Y := hid (grow_block Y.out hb)
    replace H10 := hid (grow_block H10.out hb)
    replace H12 := hid (grow_block H12.out hb)
    clear hb
    go_wp2_with (first | (refine op_loadId rfl rfl rfl X.out (HA.out) ?_) | (refine op_loadId rfl rfl rfl Y.out (HBL.out) ?_) | (refine op_loadId rfl rfl rfl H10.out (HA.out) ?_) | (refine op_loadId rfl rfl rfl H12.out (HPL.out) ?_) |  (refine op_allocstore (l := parse l) rfl rfl rfl rfl rfl rfl (fun _ => rfl) ⟨fun _ => rfl, HPL.out⟩ ?_))
    intro g14 w13 hgl hgu hb hr
    have H14L := hid (Nat.le_trans HB.out.size hgl)
    replace HB := hid (Grow.trans HB.out hb)
    replace X := hid (grow_block X.out hb)
    replace Y := hid (grow_block Y.out hb)
    replace H10 := hid (grow_block H10.out hb)
    replace H12 := hid (grow_block H12.out hb)
    have H14 := hid hr; have H14U := hid hgu
    clear hr hgl hgu hb
    try simp only [Act.put, List.setIfInBounds_toArray, List.set_cons_zero, List.set_cons_succ]
    have hp1 := id_neq_self (parse l) (parse_length l)
    have hp2 := id_guard .neq (parse l) (parse l)
    obtain ⟨po, pe, hpo, hpe, hcase⟩ : ∃ po pe, parseOk l = po ∧ parseErr l = pe ∧ (po = true ∧ pe = 0 ∨ po = false ∧ pe = 3) := by
      refine ⟨parseOk l, parseErr l, rfl, rfl, ?_⟩
      unfold parseErr
      cases parseOk l
      · exact .inr ⟨rfl, rfl⟩
      · exact .inl ⟨rfl, rfl⟩
    rw [hpo, hpe]
    clear hpo hpe
    rcases hcase with ⟨rfl, rfl⟩ | ⟨rfl, rfl⟩
    all_goals
      go_wp2_with (first | (refine op_loadId rfl rfl rfl X.out (HA.out) ?_) | (refine op_loadId rfl rfl rfl Y.out (HBL.out) ?_) | (refine op_loadId rfl rfl rfl H10.out (HA.out) ?_) | (refine op_loadId rfl rfl rfl H12.out (HPL.out) ?_) | (refine op_loadId rfl rfl rfl H14.out (HPL.out) ?_) |  fail)
      refine (idBytes l (by omega) _).mono ?_
      rintro e w14 ⟨rfl, hb⟩
      replace HB := hid (Grow.trans HB.out hb)
      replace X := hid (grow_block X.out hb)
      replace Y := hid (grow_block Y.out hb)
      replace H10 := hid (grow_block H10.out hb)
      replace H12 := hid (grow_block H12.out hb)
      replace H14 := hid (grow_block H14.out hb)
      clear hb
      clear hp1 hp2
      have HO32 := hid (idOf_length l)
      go_wp2_with (first | (refine op_loadId rfl rfl rfl X.out (HA.out) ?_) | (refine op_loadId rfl rfl rfl Y.out (HBL.out) ?_) | (refine op_loadId rfl rfl rfl H10.out (HA.out) ?_) | (refine op_loadId rfl rfl rfl H12.out (HPL.out) ?_) | (refine op_loadId rfl rfl rfl H14.out (HPL.out) ?_) |  (refine op_allocstore (l := idOf l) rfl rfl rfl rfl rfl rfl (fun _ => rfl) ⟨fun _ => rfl, HO32.out⟩ ?_))
      intro g16 w15 hgl hgu hb hr
      have H16L := hid (Nat.le_trans HB.out.size hgl)
      replace HB := hid (Grow.trans HB.out hb)
      replace X := hid (grow_block X.out hb)
      replace Y := hid (grow_block Y.out hb)
      replace H10 := hid (grow_block H10.out hb)
      replace H12 := hid (grow_block H12.out hb)
      replace H14 := hid (grow_block H14.out hb)
      have H16 := hid hr; have H16U := hid hgu
      clear hr hgl hgu hb
      try simp only [Act.put, List.setIfInBounds_toArray, List.set_cons_zero, List.set_cons_succ]
      by_cases h32 : l.length = 32
      · have HI1 := hid (show idOf l = l by rw [idOf, if_pos h32])
        have HI2 := hid (show idErr l = 0 by rw [idErr, if_pos h32])
        have tl : ((l.length : Int) != 32) = false := by simp <;> omega
        rw [HI1.out] at H16 HO32
        have HL32 := hid h32
        clear h32
        rw [HI2.out]
        have hs1 := str_eq l
        have hs2 := str_ne l
        go_wp2_with (first | (refine op_loadId rfl rfl rfl X.out (HA.out) ?_) | (refine op_loadId rfl rfl rfl Y.out (HBL.out) ?_) | (refine op_loadId rfl rfl rfl H10.out (HA.out) ?_) | (refine op_loadId rfl rfl rfl H12.out (HPL.out) ?_) | (refine op_loadId rfl rfl rfl H14.out (HPL.out) ?_) | (refine op_loadId rfl rfl rfl H16.out (HO32.out) ?_) |  fail)
        refine (ref3Bytes l HL32.out _).mono ?_
        rintro e w16 ⟨rfl, hb⟩
        replace HB := hid (Grow.trans HB.out hb)
        replace X := hid (grow_block X.out hb)
        replace Y := hid (grow_block Y.out hb)
        replace H10 := hid (grow_block H10.out hb)
        replace H12 := hid (grow_block H12.out hb)
        replace H14 := hid (grow_block H14.out hb)
        replace H16 := hid (grow_block H16.out hb)
        clear hb
        by_cases hi0 : i < 0
        · have ti1 : decide (i < 0) = true := by simpa using hi0
          go_wp2_with (first | (refine op_loadId rfl rfl rfl X.out (HA.out) ?_) | (refine op_loadId rfl rfl rfl Y.out (HBL.out) ?_) | (refine op_loadId rfl rfl rfl H10.out (HA.out) ?_) | (refine op_loadId rfl rfl rfl H12.out (HPL.out) ?_) | (refine op_loadId rfl rfl rfl H14.out (HPL.out) ?_) | (refine op_loadId rfl rfl rfl H16.out (HO32.out) ?_) |  fail)
          refine (idBitOut a HA.out i (by omega) _).mono ?_
          rintro e w17 ⟨rfl, hb⟩
          replace HB := hid (Grow.trans HB.out hb)
          replace X := hid (grow_block X.out hb)
          replace Y := hid (grow_block Y.out hb)
          replace H10 := hid (grow_block H10.out hb)
          replace H12 := hid (grow_block H12.out hb)
          replace H14 := hid (grow_block H14.out hb)
          replace H16 := hid (grow_block H16.out hb)
          clear hb
          go_wp2_with fail
          refine (awake04 _).mono ?_
          rintro e w18 ⟨rfl, hb⟩
          replace HB := hid (Grow.trans HB.out hb)
          replace X := hid (grow_block X.out hb)
          replace Y := hid (grow_block Y.out hb)
          replace H10 := hid (grow_block H10.out hb)
          replace H12 := hid (grow_block H12.out hb)
          replace H14 := hid (grow_block H14.out hb)
          replace H16 := hid (grow_block H16.out hb)
          clear hb
          go_wp2
          go_ret
          exact ⟨rfl, HB.out⟩
        · by_cases hi1 : 255 < i
          · have ti1 : decide (i < 0) = false := by simpa using hi0
            have ti2 : decide ((255 : Int) < i) = true := by simpa using hi1
            go_wp2_with (first | (refine op_loadId rfl rfl rfl X.out (HA.out) ?_) | (refine op_loadId rfl rfl rfl Y.out (HBL.out) ?_) | (refine op_loadId rfl rfl rfl H10.out (HA.out) ?_) | (refine op_loadId rfl rfl rfl H12.out (HPL.out) ?_) | (refine op_loadId rfl rfl rfl H14.out (HPL.out) ?_) | (refine op_loadId rfl rfl rfl H16.out (HO32.out) ?_) |  fail)
            refine (idBitOut a HA.out i (by omega) _).mono ?_
            rintro e w19 ⟨rfl, hb⟩
            replace HB := hid (Grow.trans HB.out hb)
            replace X := hid (grow_block X.out hb)
            replace Y := hid (grow_block Y.out hb)
            replace H10 := hid (grow_block H10.out hb)
            replace H12 := hid (grow_block H12.out hb)
            replace H14 := hid (grow_block H14.out hb)
            replace H16 := hid (grow_block H16.out hb)
            clear hb
            go_wp2_with fail
            refine (awake04 _).mono ?_
            rintro e w20 ⟨rfl, hb⟩
            replace HB := hid (Grow.trans HB.out hb)
            replace X := hid (grow_block X.out hb)
            replace Y := hid (grow_block Y.out hb)
            replace H10 := hid (grow_block H10.out hb)
            replace H12 := hid (grow_block H12.out hb)
            replace H14 := hid (grow_block H14.out hb)
            replace H16 := hid (grow_block H16.out hb)
            clear hb
            go_wp2
            go_ret
            exact ⟨rfl, HB.out⟩
          · obtain ⟨n, rfl⟩ : ∃ n : Nat, i = n := ⟨i.toNat, by omega⟩
            have hn256 : n < 256 := by omega
            have ti1 : decide ((n : Int) < 0) = false := decide_eq_false (by omega)
            have ti2 : decide ((255 : Int) < (n : Int)) = false := decide_eq_false (by omega)
            go_wp2_with (first | (refine op_loadId rfl rfl rfl X.out (HA.out) ?_) | (refine op_loadId rfl rfl rfl Y.out (HBL.out) ?_) | (refine op_loadId rfl rfl rfl H10.out (HA.out) ?_) | (refine op_loadId rfl rfl rfl H12.out (HPL.out) ?_) | (refine op_loadId rfl rfl rfl H14.out (HPL.out) ?_) | (refine op_loadId rfl rfl rfl H16.out (HO32.out) ?_) |  fail)
            refine (idBit a HA.out n hn256 _).mono ?_
            rintro e w21 ⟨rfl, hb⟩
            replace HB := hid (Grow.trans HB.out hb)
            replace X := hid (grow_block X.out hb)
            replace Y := hid (grow_block Y.out hb)
            replace H10 := hid (grow_block H10.out hb)
            replace H12 := hid (grow_block H12.out hb)
            replace H14 := hid (grow_block H14.out hb)
            replace H16 := hid (grow_block H16.out hb)
            clear hb
            go_wp2_with (first | (refine op_loadId rfl rfl rfl X.out (HA.out) ?_) | (refine op_loadId rfl rfl rfl Y.out (HBL.out) ?_) | (refine op_loadId rfl rfl rfl H10.out (HA.out) ?_) | (refine op_loadId rfl rfl rfl H12.out (HPL.out) ?_) | (refine op_loadId rfl rfl rfl H14.out (HPL.out) ?_) | (refine op_loadId rfl rfl rfl H16.out (HO32.out) ?_) |  fail)
            refine (ref3Bytes a HA.out _).mono ?_
            rintro e w22 ⟨rfl, hb⟩
            replace HB := hid (Grow.trans HB.out hb)
            replace X := hid (grow_block X.out hb)
            replace Y := hid (grow_block Y.out hb)
            replace H10 := hid (grow_block H10.out hb)
            replace H12 := hid (grow_block H12.out hb)
            replace H14 := hid (grow_block H14.out hb)
            replace H16 := hid (grow_block H16.out hb)
            clear hb
            go_wp2_with fail
            refine (refBit a n HA.out hn256 _).mono ?_
            rintro e w23 ⟨rfl, hb⟩
            replace HB := hid (Grow.trans HB.out hb)
            replace X := hid (grow_block X.out hb)
            replace Y := hid (grow_block Y.out hb)
            replace H10 := hid (grow_block H10.out hb)
            replace H12 := hid (grow_block H12.out hb)
            replace H14 := hid (grow_block H14.out hb)
            replace H16 := hid (grow_block H16.out hb)
            clear hb
            generalize bitI a n = z
            go_wp2_with fail
            refine (awake04 _).mono ?_
            rintro e w24 ⟨rfl, hb⟩
            replace HB := hid (Grow.trans HB.out hb)
            replace X := hid (grow_block X.out hb)
            replace Y := hid (grow_block Y.out hb)
            replace H10 := hid (grow_block H10.out hb)
            replace H12 := hid (grow_block H12.out hb)
            replace H14 := hid (grow_block H14.out hb)
            replace H16 := hid (grow_block H16.out hb)
            clear hb
            go_wp2
            go_ret
            exact ⟨rfl, HB.out⟩
      · have HI1 := hid (show idOf l = zero8 32 by rw [idOf, if_neg h32])
        have HI2 := hid (show idErr l = 3 by rw [idErr, if_neg h32])
        have tl : ((l.length : Int) != 32) = true := by simp <;> omega
        rw [HI1.out] at H16 HO32
        rw [HI2.out]
        have hz1 := id_neq_self (zero8 32) rfl
        have hz2 := id_guard .neq (zero8 32) (zero8 32)
        by_cases hi0 : i < 0
        · have ti1 : decide (i < 0) = true := by simpa using hi0
          go_wp2_with (first | (refine op_buildId rfl rfl ?_) | (refine op_loadId rfl rfl rfl X.out (HA.out) ?_) | (refine op_loadId rfl rfl rfl Y.out (HBL.out) ?_) | (refine op_loadId rfl rfl rfl H10.out (HA.out) ?_) | (refine op_loadId rfl rfl rfl H12.out (HPL.out) ?_) | (refine op_loadId rfl rfl rfl H14.out (HPL.out) ?_) | (refine op_loadId rfl rfl rfl H16.out (HO32.out) ?_) |  fail)
          refine (idBitOut a HA.out i (by omega) _).mono ?_
          rintro e w25 ⟨rfl, hb⟩
          replace HB := hid (Grow.trans HB.out hb)
          replace X := hid (grow_block X.out hb)
          replace Y := hid (grow_block Y.out hb)
          replace H10 := hid (grow_block H10.out hb)
          replace H12 := hid (grow_block H12.out hb)
          replace H14 := hid (grow_block H14.out hb)
          replace H16 := hid (grow_block H16.out hb)
          clear hb
          go_wp2_with fail
          refine (awake04 _).mono ?_
          rintro e w26 ⟨rfl, hb⟩
          replace HB := hid (Grow.trans HB.out hb)
          replace X := hid (grow_block X.out hb)
          replace Y := hid (grow_block Y.out hb)
          replace H10 := hid (grow_block H10.out hb)
          replace H12 := hid (grow_block H12.out hb)
          replace H14 := hid (grow_block H14.out hb)
          replace H16 := hid (grow_block H16.out hb)
          clear hb
          go_wp2
          go_ret
          exact ⟨rfl, HB.out⟩
        · by_cases hi1 : 255 < i
          · have ti1 : decide (i < 0) = false := by simpa using hi0
            have ti2 : decide ((255 : Int) < i) = true := by simpa using hi1
            go_wp2_with (first | (refine op_buildId rfl rfl ?_) | (refine op_loadId rfl rfl rfl X.out (HA.out) ?_) | (refine op_loadId rfl rfl rfl Y.out (HBL.out) ?_) | (refine op_loadId rfl rfl rfl H10.out (HA.out) ?_) | (refine op_loadId rfl rfl rfl H12.out (HPL.out) ?_) | (refine op_loadId rfl rfl rfl H14.out (HPL.out) ?_) | (refine op_loadId rfl rfl rfl H16.out (HO32.out) ?_) |  fail)
            refine (idBitOut a HA.out i (by omega) _).mono ?_
            rintro e w27 ⟨rfl, hb⟩
            replace HB := hid (Grow.trans HB.out hb)
            replace X := hid (grow_block X.out hb)
            replace Y := hid (grow_block Y.out hb)
            replace H10 := hid (grow_block H10.out hb)
            replace H12 := hid (grow_block H12.out hb)
            replace H14 := hid (grow_block H14.out hb)
            replace H16 := hid (grow_block H16.out hb)
            clear hb
            go_wp2_with fail
            refine (awake04 _).mono ?_
            rintro e w28 ⟨rfl, hb⟩
            replace HB := hid (Grow.trans HB.out hb)
            replace X := hid (grow_block X.out hb)
            replace Y := hid (grow_block Y.out hb)
            replace H10 := hid (grow_block H10.out hb)
            replace H12 := hid (grow_block H12.out hb)
            replace H14 := hid (grow_block H14.out hb)
            replace H16 := hid (grow_block H16.out hb)
            clear hb
            go_wp2
            go_ret
            exact ⟨rfl, HB.out⟩
          · obtain ⟨n, rfl⟩ : ∃ n : Nat, i = n := ⟨i.toNat, by omega⟩
            have hn256 : n < 256 := by omega
            have ti1 : decide ((n : Int) < 0) = false := decide_eq_false (by omega)
            have ti2 : decide ((255 : Int) < (n : Int)) = false := decide_eq_false (by omega)
            go_wp2_with (first | (refine op_buildId rfl rfl ?_) | (refine op_loadId rfl rfl rfl X.out (HA.out) ?_) | (refine op_loadId rfl rfl rfl Y.out (HBL.out) ?_) | (refine op_loadId rfl rfl rfl H10.out (HA.out) ?_) | (refine op_loadId rfl rfl rfl H12.out (HPL.out) ?_) | (refine op_loadId rfl rfl rfl H14.out (HPL.out) ?_) | (refine op_loadId rfl rfl rfl H16.out (HO32.out) ?_) |  fail)
            refine (idBit a HA.out n hn256 _).mono ?_
            rintro e w29 ⟨rfl, hb⟩
            replace HB := hid (Grow.trans HB.out hb)
            replace X := hid (grow_block X.out hb)
            replace Y := hid (grow_block Y.out hb)
            replace H10 := hid (grow_block H10.out hb)
            replace H12 := hid (grow_block H12.out hb)
            replace H14 := hid (grow_block H14.out hb)
            replace H16 := hid (grow_block H16.out hb)
            clear hb
            go_wp2_with (first | (refine op_buildId rfl rfl ?_) | (refine op_loadId rfl rfl rfl X.out (HA.out) ?_) | (refine op_loadId rfl rfl rfl Y.out (HBL.out) ?_) | (refine op_loadId rfl rfl rfl H10.out (HA.out) ?_) | (refine op_loadId rfl rfl rfl H12.out (HPL.out) ?_) | (refine op_loadId rfl rfl rfl H14.out (HPL.out) ?_) | (refine op_loadId rfl rfl rfl H16.out (HO32.out) ?_) |  fail)
            refine (ref3Bytes a HA.out _).mono ?_
            rintro e w30 ⟨rfl, hb⟩
            replace HB := hid (Grow.trans HB.out hb)
            replace X := hid (grow_block X.out hb)
            replace Y := hid (grow_block Y.out hb)
            replace H10 := hid (grow_block H10.out hb)
            replace H12 := hid (grow_block H12.out hb)
            replace H14 := hid (grow_block H14.out hb)
            replace H16 := hid (grow_block H16.out hb)
            clear hb
            go_wp2_with fail
            refine (refBit a n HA.out hn256 _).mono ?_
            rintro e w31 ⟨rfl, hb⟩
            replace HB := hid (Grow.trans HB.out hb)
            replace X := hid (grow_block X.out hb)
            replace Y := hid (grow_block Y.out hb)
            replace H10 := hid (grow_block H10.out hb)
            replace H12 := hid (grow_block H12.out hb)
            replace H14 := hid (grow_block H14.out hb)
            replace H16 := hid (grow_block H16.out hb)
            clear hb
            generalize bitI a n = z
            go_wp2_with fail
            refine (awake04 _).mono ?_
            rintro e w32 ⟨rfl, hb⟩
            replace HB := hid (Grow.trans HB.out hb)
            replace X := hid (grow_block X.out hb)
            replace Y := hid (grow_block Y.out hb)
            replace H10 := hid (grow_block H10.out hb)
            replace H12 := hid (grow_block H12.out hb)
            replace H14 := hid (grow_block H14.out hb)
            replace H16 := hid (grow_block H16.out hb)
            clear hb
            go_wp2
            go_ret
            exact ⟨rfl, HB.out⟩
        
end Go.Proofs.Ytkibibgbmkejjaa
