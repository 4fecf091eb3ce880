/- The laws TagSums, TagRows: walks. -/
import Derived.Test.YtkibibgbmkejjaaQTagC
import Derived.Test.YtkibibgbmkejjaaQLaw03s
set_option linter.unusedSimpArgs false
set_option linter.unusedVariables false
namespace Go.Proofs.Ytkibibgbmkejjaa
open Go.RowKit
open Go.Qk hiding rotr b4
set_option maxHeartbeats 1000000
set_option maxRecDepth 100000
theorem refPairC (name : ByteArray) (a b : List UInt8) (ha : a.length = 32) (hb : b.length = 32) (w : World) :
    Calls Try.prog 44 #[.string (cutName name), idV a, idV b] w fun e w' => e = .returned (idV (pairOf name a b)) ∧ Below w.heap.size w w' := by
  have h := refPair (cutName name) a b ha hb (cutName_size name) w
  have e : pairOf (cutName name) a b = pairOf name a b := by unfold pairOf; rw [cutName_short _ (cutName_size name)]
  rw [e] at h
  exact h
theorem refOfChain (name : ByteArray) (A : Option Addr) (c : Nat) (l : List (List UInt8)) (w : World) (hx : StrRow w A [bs l.flatten]) (hlen : (textOf (cutName name) [bs l.flatten]).length ≤ 140737488355328) :
    Calls Try.prog 42 #[.string (cutName name), .slice A 1 c] w fun e w' => e = .returned (idV (chainOf name l)) ∧ Below w.heap.size w w' := refOf (cutName name) A 1 c [bs l.flatten] w hx rfl (cutName_size name) hlen
theorem tagRows (name : ByteArray) (hsz : name.size ≤ 140737488351232) (a b : List UInt8) (ha : a.length = 32) (hb : b.length = 32) (A : Option Addr) (n c : Nat) (l : List (List UInt8)) (w : World) (hx : IdRow w A l) (hn : l.length = n) (hl : ∀ s ∈ l, s.length = 32) :
    Calls Try.prog 6 #[.string name, idV a, idV b, .slice A n c] w fun e w' => e = .returned (.bool true) ∧ Below w.heap.size w w' := by
  subst hn
  have HX := hid hx
  have HL := hid hl
  have HA := hid ha
  have HBL := hid hb
  have hn9 := hx.1
  clear hx hl ha hb
  by_cases hlong : 600 < name.size ∨ 40 < l.length
  · go_enter Try.func6, Try.ntmps6
    have HB := hid (grow_refl w)
    apply wp_seq_k; intro _ _; apply wp_region_lit
    refine op_box (l := a) rfl rfl rfl ?_
    intro gx w1 hgl hgu hb hr
    have XL := hid (Nat.le_trans HB.out.size hgl)
    replace HB := hid (Grow.trans HB.out hb)
    have X := hid hr; have XU := hid hgu
    clear hr hgl hgu hb
    try simp only [Act.put, List.setIfInBounds_toArray, List.set_cons_zero, List.set_cons_succ]
    refine op_box (l := b) rfl rfl rfl ?_
    intro gy w2 hgl hgu hb hr
    have YL := hid (Nat.le_trans HB.out.size hgl)
    replace HB := hid (Grow.trans HB.out hb)
    replace X := hid (grow_block X.out hb)
    have Y := hid hr; have YU := hid hgu
    clear hr hgl hgu hb
    try simp only [Act.put, List.setIfInBounds_toArray, List.set_cons_zero, List.set_cons_succ]
    by_cases h6 : 600 < name.size
    · have t1 : decide ((600 : Int) < (name.size : Int)) = true := by simp; omega
      go_wp2_with fail
      refine (awake03 _).mono ?_
      rintro e w3 ⟨rfl, hb⟩
      replace HB := hid (Grow.trans HB.out hb)
      replace X := hid (grow_block X.out hb)
      replace Y := hid (grow_block Y.out hb)
      clear hb
      go_wp2
      go_ret
      exact ⟨rfl, HB.out⟩
    · have t1 : decide ((600 : Int) < (name.size : Int)) = false := by simp; omega
      have t2 : decide ((40 : Int) < (l.length : Int)) = true := by simp; omega
      go_wp2_with fail
      refine (awake03 _).mono ?_
      rintro e w4 ⟨rfl, hb⟩
      replace HB := hid (Grow.trans HB.out hb)
      replace X := hid (grow_block X.out hb)
      replace Y := hid (grow_block Y.out hb)
      clear hb
      go_wp2
      go_ret
      exact ⟨rfl, HB.out⟩
  · have t1 : decide ((600 : Int) < (name.size : Int)) = false := by simp; omega
    have t2 : decide ((40 : Int) < (l.length : Int)) = false := by simp; omega
    have hm40 : l.length ≤ 40 := by omega
    have HM := hid hm40
    have hcut : cutName name = name.extract 0 (min name.size 255) := rfl
    have hmn : (min (name.size : Int) 255) = ((min name.size 255 : Nat) : Int) := by omega
    have hm1 : min name.size 255 ≤ name.size := Nat.min_le_left _ _
    have HTX := hid (textOf_one (cutName name) l.flatten (cutName_size name) (by have := flatten_take_len l HL.out l.length (Nat.le_refl _); rw [List.take_length] at this; omega))
    generalize min name.size 255 = m at *
    have HCUT := hid hcut
    clear hcut hlong
    go_enter Try.func6, Try.ntmps6
    have HB := hid (grow_refl w)
    apply wp_seq_k; intro _ _; apply wp_region_lit
    refine op_box (l := a) rfl rfl rfl ?_
    intro gx w5 hgl hgu hb hr
    have XL := hid (Nat.le_trans HB.out.size hgl)
    replace HB := hid (Grow.trans HB.out hb)
    have X := hid hr; have XU := hid hgu
    clear hr hgl hgu hb
    try simp only [Act.put, List.setIfInBounds_toArray, List.set_cons_zero, List.set_cons_succ]
    refine op_box (l := b) rfl rfl rfl ?_
    intro gy w6 hgl hgu hb hr
    have YL := hid (Nat.le_trans HB.out.size hgl)
    replace HB := hid (Grow.trans HB.out hb)
    replace X := hid (grow_block X.out hb)
    have Y := hid hr; have YU := hid hgu
    clear hr hgl hgu hb
    try simp only [Act.put, List.setIfInBounds_toArray, List.set_cons_zero, List.set_cons_succ]
    go_wp2_with fail
    rw [← HCUT.out]
    have hq1 := id_eql_self (pairOf name a b) (pairOf_length _ _ _)
    have hq2 := id_guard .eql (pairOf name a b) (pairOf name a b)
    have hq3 := id_eql_self (chainOf name l) (chainOf_length _ _)
    have hq4 := id_guard .eql (chainOf name l) (chainOf name l)
    (refine' wp_region_head 24 0 [_, _, _, _, _, _, _, _, _, _, _, _, _, _, _, _, _, _, _, _, _, _, _, _] rfl (by kernel_rfl) (by kernel_rfl) ?hreg1; case' hreg1 => simp only [List.take_succ_cons, List.take_zero, List.zip_cons_cons, List.zip_nil_right, List.drop_succ_cons, List.drop_zero, List.drop_nil])
    (refine' head_val ?dw2 ?de2 ?dr2 ?dh2; (case' dw2 => rfl); (case' de2 => (first | exact fun _ _ _ => trivial | (intro t ht w; cases ht; simp [upE]))); (case' dr2 => (intro w' hw' _; go_simp; with_reducible rfl)); (case' dh2 => (try simp only [Act.put, List.setIfInBounds_toArray, List.set_cons_zero, List.set_cons_succ])))
    (refine' head_loadId (x := _) rfl ?_ rfl rfl X.out (HA.out) ?_; (first | exact fun _ _ _ => trivial | (intro t ht w; cases ht; simp [upE])); try simp only [Act.put, List.setIfInBounds_toArray, List.set_cons_zero, List.set_cons_succ])
    (refine' head_loadId (x := _) rfl ?_ rfl rfl Y.out (HBL.out) ?_; (first | exact fun _ _ _ => trivial | (intro t ht w; cases ht; simp [upE])); try simp only [Act.put, List.setIfInBounds_toArray, List.set_cons_zero, List.set_cons_succ])
    (refine' head_call ?cw3 ?ce3 ?cr3 ?cc3 ?ch3; (case' cw3 => rfl); (case' ce3 => (first | exact fun _ _ _ => trivial | (intro t ht w; cases ht; simp [upE]))); (case' cr3 => (intro w'; go_simp; first | exact ⟨rfl, rfl⟩ | with_reducible rfl)); (case' cc3 => (intro w' hw' _; exact tagPair name a b HA.out HBL.out (by omega) w')); (case' ch3 => (try simp only [Act.put, List.setIfInBounds_toArray, List.set_cons_zero, List.set_cons_succ])))
    (refine' head_val ?dw4 ?de4 ?dr4 ?dh4; (case' dw4 => rfl); (case' de4 => (first | exact fun _ _ _ => trivial | (intro t ht w; cases ht; simp [upE]))); (case' dr4 => (intro w' hw' _; go_simp; with_reducible rfl)); (case' dh4 => (try simp only [Act.put, List.setIfInBounds_toArray, List.set_cons_zero, List.set_cons_succ])))
    (refine' head_loadId (x := _) rfl ?_ rfl rfl X.out (HA.out) ?_; (first | exact fun _ _ _ => trivial | (intro t ht w; cases ht; simp [upE])); try simp only [Act.put, List.setIfInBounds_toArray, List.set_cons_zero, List.set_cons_succ])
    (refine' head_loadId (x := _) rfl ?_ rfl rfl Y.out (HBL.out) ?_; (first | exact fun _ _ _ => trivial | (intro t ht w; cases ht; simp [upE])); try simp only [Act.put, List.setIfInBounds_toArray, List.set_cons_zero, List.set_cons_succ])
    (refine' head_call ?cw5 ?ce5 ?cr5 ?cc5 ?ch5; (case' cw5 => rfl); (case' ce5 => (first | exact fun _ _ _ => trivial | (intro t ht w; cases ht; simp [upE]))); (case' cr5 => (intro w'; go_simp; first | exact ⟨rfl, rfl⟩ | with_reducible rfl)); (case' cc5 => (intro w' hw' _; exact refPairC name a b HA.out HBL.out w')); (case' ch5 => (try simp only [Act.put, List.setIfInBounds_toArray, List.set_cons_zero, List.set_cons_succ])))
    (refine' head_val ?dw6 ?de6 ?dr6 ?dh6; (case' dw6 => rfl); (case' de6 => (first | exact fun _ _ _ => trivial | (intro t ht w; cases ht; simp [upE]))); (case' dr6 => (intro w' hw' _; go_simp; with_reducible rfl)); (case' dh6 => (try simp only [Act.put, List.setIfInBounds_toArray, List.set_cons_zero, List.set_cons_succ]))); (refine' head_val ?dw7 ?de7 ?dr7 ?dh7; (case' dw7 => rfl); (case' de7 => (first | exact fun _ _ _ => trivial | (intro t ht w; cases ht; simp [upE]))); (case' dr7 => (intro w' hw' _; go_simp; with_reducible rfl)); (case' dh7 => (try simp only [Act.put, List.setIfInBounds_toArray, List.set_cons_zero, List.set_cons_succ]))); (refine' head_val ?dw8 ?de8 ?dr8 ?dh8; (case' dw8 => rfl); (case' de8 => (first | exact fun _ _ _ => trivial | (intro t ht w; cases ht; simp [upE]))); (case' dr8 => (intro w' hw' _; go_simp; with_reducible rfl)); (case' dh8 => (try simp only [Act.put, List.setIfInBounds_toArray, List.set_cons_zero, List.set_cons_succ]))); (refine' head_val ?dw9 ?de9 ?dr9 ?dh9; (case' dw9 => rfl); (case' de9 => (first | exact fun _ _ _ => trivial | (intro t ht w; cases ht; simp [upE]))); (case' dr9 => (intro w' hw' _; go_simp; with_reducible rfl)); (case' dh9 => (try simp only [Act.put, List.setIfInBounds_toArray, List.set_cons_zero, List.set_cons_succ])))
    (refine' head_call ?cw10 ?ce10 ?cr10 ?cc10 ?ch10; (case' cw10 => rfl); (case' ce10 => (first | exact fun _ _ _ => trivial | (intro t ht w; cases ht; simp [upE]))); (case' cr10 => (intro w'; go_simp; first | exact ⟨rfl, rfl⟩ | with_reducible rfl)); (case' cc10 => (intro w' hw' _; exact tagChain name (by omega) A _ c l w' ((HX.out.grow HB.out).grow hw') rfl HL.out (by have := HM.out; omega))); (case' ch10 => (try simp only [Act.put, List.setIfInBounds_toArray, List.set_cons_zero, List.set_cons_succ])))
    (refine' head_val ?dw11 ?de11 ?dr11 ?dh11; (case' dw11 => rfl); (case' de11 => (first | exact fun _ _ _ => trivial | (intro t ht w; cases ht; simp [upE]))); (case' dr11 => (intro w' hw' _; go_simp; with_reducible rfl)); (case' dh11 => (try simp only [Act.put, List.setIfInBounds_toArray, List.set_cons_zero, List.set_cons_succ]))); (refine' head_val ?dw12 ?de12 ?dr12 ?dh12; (case' dw12 => rfl); (case' de12 => (first | exact fun _ _ _ => trivial | (intro t ht w; cases ht; simp [upE]))); (case' dr12 => (intro w' hw' _; go_simp; with_reducible rfl)); (case' dh12 => (try simp only [Act.put, List.setIfInBounds_toArray, List.set_cons_zero, List.set_cons_succ])))
    (refine' head_call ?cw13 ?ce13 ?cr13 ?cc13 ?ch13; (case' cw13 => rfl); (case' ce13 => (first | exact fun _ _ _ => trivial | (intro t ht w; cases ht; simp [upE]))); (case' cr13 => (intro w'; go_simp; first | exact ⟨rfl, rfl⟩ | with_reducible rfl)); (case' cc13 => (intro w' hw' _; exact refAll A _ c l w' ((HX.out.grow HB.out).grow hw') rfl HL.out (by have := HM.out; omega))); (case' ch13 => (try simp only [Act.put, List.setIfInBounds_toArray, List.set_cons_zero, List.set_cons_succ])))
    (refine' head_row [.string (bs l.flatten)] 1 9 ?_ ?_ ?_; (· rfl); (· intro w; first | (go_simp; done) | (go_simp; first | with_reducible rfl | rfl)); intro g40; simp only [Act.put, List.setIfInBounds_toArray, List.set_cons_zero, List.set_cons_succ])
    (refine' head_call ?cw14 ?ce14 ?cr14 ?cc14 ?ch14; (case' cw14 => rfl); (case' ce14 => (first | exact fun _ _ _ => trivial | (intro t ht w; cases ht; simp [upE]))); (case' cr14 => (intro w'; go_simp; first | exact ⟨rfl, rfl⟩ | with_reducible rfl)); (case' cc14 => (intro w' hw' hE; exact refOfChain name _ _ l w' (strRow_cells (row_at (hE 40 (by decide))) (by simp)) HTX.out)); (case' ch14 => (try simp only [Act.put, List.setIfInBounds_toArray, List.set_cons_zero, List.set_cons_succ])))
    (refine' head_val ?dw15 ?de15 ?dr15 ?dh15; (case' dw15 => rfl); (case' de15 => (first | exact fun _ _ _ => trivial | (intro t ht w; cases ht; simp [upE]))); (case' dr15 => (intro w' hw' _; go_simp; with_reducible rfl)); (case' dh15 => (try simp only [Act.put, List.setIfInBounds_toArray, List.set_cons_zero, List.set_cons_succ]))); (refine' head_val ?dw16 ?de16 ?dr16 ?dh16; (case' dw16 => rfl); (case' de16 => (first | exact fun _ _ _ => trivial | (intro t ht w; cases ht; simp [upE]))); (case' dr16 => (intro w' hw' _; go_simp; with_reducible rfl)); (case' dh16 => (try simp only [Act.put, List.setIfInBounds_toArray, List.set_cons_zero, List.set_cons_succ]))); (refine' head_val ?dw17 ?de17 ?dr17 ?dh17; (case' dw17 => rfl); (case' de17 => (first | exact fun _ _ _ => trivial | (intro t ht w; cases ht; simp [upE]))); (case' dr17 => (intro w' hw' _; go_simp; with_reducible rfl)); (case' dh17 => (try simp only [Act.put, List.setIfInBounds_toArray, List.set_cons_zero, List.set_cons_succ])))
    (refine' head_call ?cw18 ?ce18 ?cr18 ?cc18 ?ch18; (case' cw18 => rfl); (case' ce18 => (first | exact fun _ _ _ => trivial | (intro t ht w; cases ht; simp [upE]))); (case' cr18 => (intro w'; go_simp; first | exact ⟨rfl, rfl⟩ | with_reducible rfl)); (case' cc18 => (intro w' hw' _; exact awake03 w')); (case' ch18 => (try simp only [Act.put, List.setIfInBounds_toArray, List.set_cons_zero, List.set_cons_succ])))
    (refine' head_val ?dw19 ?de19 ?dr19 ?dh19; (case' dw19 => rfl); (case' de19 => (first | exact fun _ _ _ => trivial | (intro t ht w; cases ht; simp [upE]))); (case' dr19 => (intro w' hw' _; go_simp; with_reducible rfl)); (case' dh19 => (try simp only [Act.put, List.setIfInBounds_toArray, List.set_cons_zero, List.set_cons_succ]))); (refine' head_val ?dw20 ?de20 ?dr20 ?dh20; (case' dw20 => rfl); (case' de20 => (first | exact fun _ _ _ => trivial | (intro t ht w; cases ht; simp [upE]))); (case' dr20 => (intro w' hw' _; go_simp; with_reducible rfl)); (case' dh20 => (try simp only [Act.put, List.setIfInBounds_toArray, List.set_cons_zero, List.set_cons_succ])))
    refine head_nil ?_
    intro w7 hb _
    replace HB := hid (Grow.trans HB.out hb)
    replace X := hid (grow_block X.out hb)
    replace Y := hid (grow_block Y.out hb)
    clear hb
    refine wpList_nil ?_
    clear hq1 hq2 hq3 hq4
    go_wp2
    go_ret
    exact ⟨rfl, HB.out⟩
theorem id_eql_of (F G : List UInt8) (hF : F.length = 32) (hG : G.length = 32) (b : Bool) (h : (F == G) = b) (w : World) : (Go.binOp .eql 23 (idV F) (idV G)).run Try.prog w = .ok (.bool b) w := by
  rw [id_eql F G hF hG w, h]
theorem tagSums (name : ByteArray) (hsz : name.size ≤ 140737488351232) (A : Option Addr) (n c : Nat) (xs : List ByteArray) (w : World) (hx : StrRow w A xs) (hn : xs.length = n) (hss : ∀ s ∈ xs, s.size ≤ 9223372036854775807) :
    Calls Try.prog 5 #[.string name, .slice A n c] w fun e w' => e = .returned (.bool true) ∧ Below w.heap.size w w' := by
  subst hn
  have HX := hid hx
  have HSS := hid hss
  clear hx hss
  by_cases h6 : 600 < name.size
  · have t1 : decide ((600 : Int) < (name.size : Int)) = true := by simp; omega
    go_enter Try.func5, Try.ntmps5
    have HB := hid (grow_refl w)
    go_wp2_with fail
    refine (awake03 _).mono ?_
    rintro e w1 ⟨rfl, hb⟩
    replace HB := hid (Grow.trans HB.out hb)
    clear hb
    go_wp2
    go_ret
    exact ⟨rfl, HB.out⟩
  · have t1 : decide ((600 : Int) < (name.size : Int)) = false := by simp; omega
    cases hL : longB xs with
    | true =>
      have HLL := hid hL
      clear hL
      go_enter Try.func5, Try.ntmps5
      have HB := hid (grow_refl w)
      go_wp2_with fail
      refine (long03 A _ c xs _ (HX.out.grow HB.out) rfl HSS.out).mono ?_
      rintro e w2 ⟨rfl, hb⟩
      replace HB := hid (Grow.trans HB.out hb)
      clear hb
      rw [HLL.out]
      go_wp2_with fail
      refine (awake03 _).mono ?_
      rintro e w3 ⟨rfl, hb⟩
      replace HB := hid (Grow.trans HB.out hb)
      clear hb
      go_wp2
      go_ret
      exact ⟨rfl, HB.out⟩
    | false =>
      have HLL := hid hL
      clear hL
      by_cases h255 : 255 < name.size
      · have t2 : decide ((255 : Int) < (name.size : Int)) = true := by simp; omega
        go_enter Try.func5, Try.ntmps5
        have HB := hid (grow_refl w)
        go_wp2_with fail
        refine (long03 A _ c xs _ (HX.out.grow HB.out) rfl HSS.out).mono ?_
        rintro e w4 ⟨rfl, hb⟩
        replace HB := hid (Grow.trans HB.out hb)
        clear hb
        rw [HLL.out]
        go_wp2_with fail
        refine (tagText_long name _ h255 _).mono ?_
        rintro e w5 ⟨rfl, hb⟩
        replace HB := hid (Grow.trans HB.out hb)
        clear hb
        go_wp2_with fail
        refine (tagOf_long name _ h255 _).mono ?_
        rintro e w6 ⟨rfl, hb⟩
        replace HB := hid (Grow.trans HB.out hb)
        clear hb
        have hq1 := id_eql_self (zero8 32) rfl
        have hq2 := id_guard .eql (zero8 32) (zero8 32)
        have hq3 : (bs []).toList.isEmpty = true := by rw [toList_bl, bl_bs]; rfl
        go_wp2_with (first |  (refine op_allocstore (l := zero8 32) rfl rfl rfl rfl rfl rfl (fun _ => rfl) ⟨fun _ => rfl, rfl⟩ ?_))
        intro g7 w7 hgl hgu hb hr
        have H7L := hid (Nat.le_trans HB.out.size hgl)
        replace HB := hid (Grow.trans HB.out hb)
        have H7 := hid hr; have H7U := hid hgu
        clear hr hgl hgu hb
        try simp only [Act.put, List.setIfInBounds_toArray, List.set_cons_zero, List.set_cons_succ]
        go_wp2_with (first | (refine opG_loadId rfl rfl rfl H7.out rfl ?_) | (refine opG_buildId rfl rfl ?_))
        refine (awake03 _).mono ?_
        rintro e w8 ⟨rfl, hb⟩
        replace HB := hid (Grow.trans HB.out hb)
        replace H7 := hid (grow_block H7.out hb)
        clear hb
        go_wp2
        go_ret
        exact ⟨rfl, HB.out⟩
      · have t2 : decide ((255 : Int) < (name.size : Int)) = false := by simp; omega
        have hn255 : name.size ≤ 255 := by omega
        have HTX := hid (textOf_small name xs HLL.out hn255)
        go_enter Try.func5, Try.ntmps5
        have HB := hid (grow_refl w)
        go_wp2_with fail
        refine (long03 A _ c xs _ (HX.out.grow HB.out) rfl HSS.out).mono ?_
        rintro e w9 ⟨rfl, hb⟩
        replace HB := hid (Grow.trans HB.out hb)
        clear hb
        rw [HLL.out]
        go_wp2_with fail
        refine (tagText name A _ c xs _ (HX.out.grow HB.out) rfl hn255 HTX.out).mono ?_
        rintro e w10 ⟨rfl, hb⟩
        replace HB := hid (Grow.trans HB.out hb)
        clear hb
        go_wp2_with fail
        refine (tagOf name A _ c xs _ (HX.out.grow HB.out) rfl hn255 HTX.out).mono ?_
        rintro e w11 ⟨rfl, hb⟩
        replace HB := hid (Grow.trans HB.out hb)
        clear hb
        have H32 := hid (tagSum_length name xs)
        go_wp2_with (first |  (refine op_allocstore (l := tagSum name xs) rfl rfl rfl rfl rfl rfl (fun _ => rfl) ⟨fun _ => rfl, H32.out⟩ ?_))
        intro g7 w12 hgl hgu hb hr
        have H7L := hid (Nat.le_trans HB.out.size hgl)
        replace HB := hid (Grow.trans HB.out hb)
        have H7 := hid hr; have H7U := hid hgu
        clear hr hgl hgu hb
        try simp only [Act.put, List.setIfInBounds_toArray, List.set_cons_zero, List.set_cons_succ]
        go_wp2_with fail
        have hq1 := id_eql_self (tagSum name xs) (tagSum_length name xs)
        have hq2 := id_guard .eql (tagSum name xs) (tagSum name xs)
        have hq3 : ((bs (textOf name xs)).toList == (bs (textOf name xs)).toList) = true := beq_self_eq_true _
        (refine' wp_region_head 24 0 [_, _, _, _, _, _, _, _, _, _, _, _, _, _, _, _, _, _, _, _, _, _, _, _] rfl (by kernel_rfl) (by kernel_rfl) ?hreg21; case' hreg21 => simp only [List.take_succ_cons, List.take_zero, List.zip_cons_cons, List.zip_nil_right, List.drop_succ_cons, List.drop_zero, List.drop_nil])
        (refine' head_val ?dw22 ?de22 ?dr22 ?dh22; (case' dw22 => rfl); (case' de22 => (first | exact fun _ _ _ => trivial | (intro t ht w; cases ht; simp [upE]))); (case' dr22 => (intro w' hw' _; go_simp; with_reducible rfl)); (case' dh22 => (try simp only [Act.put, List.setIfInBounds_toArray, List.set_cons_zero, List.set_cons_succ]))); (refine' head_val ?dw23 ?de23 ?dr23 ?dh23; (case' dw23 => rfl); (case' de23 => (first | exact fun _ _ _ => trivial | (intro t ht w; cases ht; simp [upE]))); (case' dr23 => (intro w' hw' _; go_simp; with_reducible rfl)); (case' dh23 => (try simp only [Act.put, List.setIfInBounds_toArray, List.set_cons_zero, List.set_cons_succ]))); (refine' head_val ?dw24 ?de24 ?dr24 ?dh24; (case' dw24 => rfl); (case' de24 => (first | exact fun _ _ _ => trivial | (intro t ht w; cases ht; simp [upE]))); (case' dr24 => (intro w' hw' _; go_simp; with_reducible rfl)); (case' dh24 => (try simp only [Act.put, List.setIfInBounds_toArray, List.set_cons_zero, List.set_cons_succ]))); (refine' head_val ?dw25 ?de25 ?dr25 ?dh25; (case' dw25 => rfl); (case' de25 => (first | exact fun _ _ _ => trivial | (intro t ht w; cases ht; simp [upE]))); (case' dr25 => (intro w' hw' _; go_simp; with_reducible rfl)); (case' dh25 => (try simp only [Act.put, List.setIfInBounds_toArray, List.set_cons_zero, List.set_cons_succ]))); (refine' head_val ?dw26 ?de26 ?dr26 ?dh26; (case' dw26 => rfl); (case' de26 => (first | exact fun _ _ _ => trivial | (intro t ht w; cases ht; simp [upE]))); (case' dr26 => (intro w' hw' _; go_simp; with_reducible rfl)); (case' dh26 => (try simp only [Act.put, List.setIfInBounds_toArray, List.set_cons_zero, List.set_cons_succ]))); (refine' head_val ?dw27 ?de27 ?dr27 ?dh27; (case' dw27 => rfl); (case' de27 => (first | exact fun _ _ _ => trivial | (intro t ht w; cases ht; simp [upE]))); (case' dr27 => (intro w' hw' _; go_simp; with_reducible rfl)); (case' dh27 => (try simp only [Act.put, List.setIfInBounds_toArray, List.set_cons_zero, List.set_cons_succ]))); (refine' head_val ?dw28 ?de28 ?dr28 ?dh28; (case' dw28 => rfl); (case' de28 => (first | exact fun _ _ _ => trivial | (intro t ht w; cases ht; simp [upE]))); (case' dr28 => (intro w' hw' _; go_simp; with_reducible rfl)); (case' dh28 => (try simp only [Act.put, List.setIfInBounds_toArray, List.set_cons_zero, List.set_cons_succ]))); (refine' head_val ?dw29 ?de29 ?dr29 ?dh29; (case' dw29 => rfl); (case' de29 => (first | exact fun _ _ _ => trivial | (intro t ht w; cases ht; simp [upE]))); (case' dr29 => (intro w' hw' _; go_simp; with_reducible rfl)); (case' dh29 => (try simp only [Act.put, List.setIfInBounds_toArray, List.set_cons_zero, List.set_cons_succ]))); (refine' head_val ?dw30 ?de30 ?dr30 ?dh30; (case' dw30 => rfl); (case' de30 => (first | exact fun _ _ _ => trivial | (intro t ht w; cases ht; simp [upE]))); (case' dr30 => (intro w' hw' _; go_simp; with_reducible rfl)); (case' dh30 => (try simp only [Act.put, List.setIfInBounds_toArray, List.set_cons_zero, List.set_cons_succ]))); (refine' head_val ?dw31 ?de31 ?dr31 ?dh31; (case' dw31 => rfl); (case' de31 => (first | exact fun _ _ _ => trivial | (intro t ht w; cases ht; simp [upE]))); (case' dr31 => (intro w' hw' _; go_simp; with_reducible rfl)); (case' dh31 => (try simp only [Act.put, List.setIfInBounds_toArray, List.set_cons_zero, List.set_cons_succ])))
        (refine' head_call ?cw32 ?ce32 ?cr32 ?cc32 ?ch32; (case' cw32 => rfl); (case' ce32 => (first | exact fun _ _ _ => trivial | (intro t ht w; cases ht; simp [upE]))); (case' cr32 => (intro w'; go_simp; first | exact ⟨rfl, rfl⟩ | with_reducible rfl)); (case' cc32 => (intro w' hw' _; exact refText name A _ c xs w' ((HX.out.grow HB.out).grow hw') rfl hn255 HTX.out)); (case' ch32 => (try simp only [Act.put, List.setIfInBounds_toArray, List.set_cons_zero, List.set_cons_succ])))
        (refine' head_val ?dw33 ?de33 ?dr33 ?dh33; (case' dw33 => rfl); (case' de33 => (first | exact fun _ _ _ => trivial | (intro t ht w; cases ht; simp [upE]))); (case' dr33 => (intro w' hw' _; go_simp; with_reducible rfl)); (case' dh33 => (try simp only [Act.put, List.setIfInBounds_toArray, List.set_cons_zero, List.set_cons_succ]))); (refine' head_val ?dw34 ?de34 ?dr34 ?dh34; (case' dw34 => rfl); (case' de34 => (first | exact fun _ _ _ => trivial | (intro t ht w; cases ht; simp [upE]))); (case' dr34 => (intro w' hw' _; go_simp; with_reducible rfl)); (case' dh34 => (try simp only [Act.put, List.setIfInBounds_toArray, List.set_cons_zero, List.set_cons_succ]))); (refine' head_val ?dw35 ?de35 ?dr35 ?dh35; (case' dw35 => rfl); (case' de35 => (first | exact fun _ _ _ => trivial | (intro t ht w; cases ht; simp [upE]))); (case' dr35 => (intro w' hw' _; go_simp; with_reducible rfl)); (case' dh35 => (try simp only [Act.put, List.setIfInBounds_toArray, List.set_cons_zero, List.set_cons_succ])))
        (refine' head_loadId (x := _) rfl ?_ rfl rfl H7.out (H32.out) ?_; (first | exact fun _ _ _ => trivial | (intro t ht w; cases ht; simp [upE])); try simp only [Act.put, List.setIfInBounds_toArray, List.set_cons_zero, List.set_cons_succ])
        (refine' head_val ?dw36 ?de36 ?dr36 ?dh36; (case' dw36 => rfl); (case' de36 => (first | exact fun _ _ _ => trivial | (intro t ht w; cases ht; simp [upE]))); (case' dr36 => (intro w' hw' _; go_simp; with_reducible rfl)); (case' dh36 => (try simp only [Act.put, List.setIfInBounds_toArray, List.set_cons_zero, List.set_cons_succ]))); (refine' head_val ?dw37 ?de37 ?dr37 ?dh37; (case' dw37 => rfl); (case' de37 => (first | exact fun _ _ _ => trivial | (intro t ht w; cases ht; simp [upE]))); (case' dr37 => (intro w' hw' _; go_simp; with_reducible rfl)); (case' dh37 => (try simp only [Act.put, List.setIfInBounds_toArray, List.set_cons_zero, List.set_cons_succ])))
        (refine' head_call ?cw38 ?ce38 ?cr38 ?cc38 ?ch38; (case' cw38 => rfl); (case' ce38 => (first | exact fun _ _ _ => trivial | (intro t ht w; cases ht; simp [upE]))); (case' cr38 => (intro w'; go_simp; first | exact ⟨rfl, rfl⟩ | with_reducible rfl)); (case' cc38 => (intro w' hw' _; exact refOf name A _ c xs w' ((HX.out.grow HB.out).grow hw') rfl hn255 HTX.out)); (case' ch38 => (try simp only [Act.put, List.setIfInBounds_toArray, List.set_cons_zero, List.set_cons_succ])))
        (refine' head_val ?dw39 ?de39 ?dr39 ?dh39; (case' dw39 => rfl); (case' de39 => (first | exact fun _ _ _ => trivial | (intro t ht w; cases ht; simp [upE]))); (case' dr39 => (intro w' hw' _; go_simp; with_reducible rfl)); (case' dh39 => (try simp only [Act.put, List.setIfInBounds_toArray, List.set_cons_zero, List.set_cons_succ]))); (refine' head_val ?dw40 ?de40 ?dr40 ?dh40; (case' dw40 => rfl); (case' de40 => (first | exact fun _ _ _ => trivial | (intro t ht w; cases ht; simp [upE]))); (case' dr40 => (intro w' hw' _; go_simp; with_reducible rfl)); (case' dh40 => (try simp only [Act.put, List.setIfInBounds_toArray, List.set_cons_zero, List.set_cons_succ]))); (refine' head_val ?dw41 ?de41 ?dr41 ?dh41; (case' dw41 => rfl); (case' de41 => (first | exact fun _ _ _ => trivial | (intro t ht w; cases ht; simp [upE]))); (case' dr41 => (intro w' hw' _; go_simp; with_reducible rfl)); (case' dh41 => (try simp only [Act.put, List.setIfInBounds_toArray, List.set_cons_zero, List.set_cons_succ])))
        (refine' head_call ?cw42 ?ce42 ?cr42 ?cc42 ?ch42; (case' cw42 => rfl); (case' ce42 => (first | exact fun _ _ _ => trivial | (intro t ht w; cases ht; simp [upE]))); (case' cr42 => (intro w'; go_simp; first | exact ⟨rfl, rfl⟩ | with_reducible rfl)); (case' cc42 => (intro w' hw' _; exact awake03 w')); (case' ch42 => (try simp only [Act.put, List.setIfInBounds_toArray, List.set_cons_zero, List.set_cons_succ])))
        (refine' head_val ?dw43 ?de43 ?dr43 ?dh43; (case' dw43 => rfl); (case' de43 => (first | exact fun _ _ _ => trivial | (intro t ht w; cases ht; simp [upE]))); (case' dr43 => (intro w' hw' _; go_simp; with_reducible rfl)); (case' dh43 => (try simp only [Act.put, List.setIfInBounds_toArray, List.set_cons_zero, List.set_cons_succ]))); (refine' head_val ?dw44 ?de44 ?dr44 ?dh44; (case' dw44 => rfl); (case' de44 => (first | exact fun _ _ _ => trivial | (intro t ht w; cases ht; simp [upE]))); (case' dr44 => (intro w' hw' _; go_simp; with_reducible rfl)); (case' dh44 => (try simp only [Act.put, List.setIfInBounds_toArray, List.set_cons_zero, List.set_cons_succ])))
        refine head_nil ?_
        intro w13 hb _
        replace HB := hid (Grow.trans HB.out hb)
        replace H7 := hid (grow_block H7.out hb)
        clear hb
        refine wpList_nil ?_
        clear hq1 hq2 hq3
        go_wp2
        go_ret
        exact ⟨rfl, HB.out⟩
end Go.Proofs.Ytkibibgbmkejjaa
