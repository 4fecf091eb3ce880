/- The law KeytreeKeys: walk. -/
import Derived.Test.YtffgifegaagndaaQKeyG
set_option linter.unusedSimpArgs false
set_option linter.unusedVariables false
namespace Go.Proofs.Ytffgifegaagndaa
open Go.RowKit
open Go.Qk hiding rotr b4
set_option maxHeartbeats 1000000
set_option maxRecDepth 100000
theorem keytreeKeys_bad (b h : Int) (seed : ByteArray) (hsz : seed.size ≤ 140737488351232) (root : IdK) (hroot : root.length = 32) (hk : ktB b h = false) (w : World) :
    Calls Try.prog 5 #[.agg #[.int .i64 b, .int .i64 h], .string seed, idV root] w fun e w' => e = .returned (.bool true) ∧ Below w.heap.size w w' := by
  have HRT := hid hroot
  have HKB := hid (fun w => ktKey_bad b h root hroot hk w)
  have HOB := hid (fun w => ktOfC_bad seed b h hk w)
  have HR7 := hid (fun w => refRight7 b h w)
  have HKR := hid (fun w => ktRight b h w)
  rw [hk] at HR7 HKR
  have HLV := hid (fun w => ktLeaves b h 0 (by rw [hk]; rfl) w)
  have HLG := hid (fun w => large7 b h w)
  rw [hk, Bool.false_and] at HLG
  have hq1 := id_eql_self (zero8 32) rfl
  have hq2 := id_guard .eql (zero8 32) (zero8 32)
  clear hk hroot
  by_cases h100 : 100 < seed.size
  · have t1 : decide ((100 : Int) < (seed.size : Int)) = true := by simp; omega
    go_enter Try.func5, Try.ntmps5
    have HB := hid (grow_refl w)
    apply wp_seq_k; intro _ _; apply wp_region_lit
    refine op_boxC (cs := #[.int .i64 b, .int .i64 h]) rfl rfl rfl rfl ?_
    intro gp w1 hgl hgu hb hr
    have PL := hid (Nat.le_trans HB.out.size hgl)
    replace HB := hid (Grow.trans HB.out hb)
    have P := hid hr; have PU := hid hgu
    clear hr hgl hgu hb
    try simp only [Act.put, List.setIfInBounds_toArray, List.set_cons_zero, List.set_cons_succ]
    refine op_box (l := root) rfl rfl rfl ?_
    intro g5 w2 hgl hgu hb hr
    have XL := hid (Nat.le_trans HB.out.size hgl)
    replace HB := hid (Grow.trans HB.out hb)
    replace P := hid (grow_block P.out hb)
    have X := hid hr; have XU := hid hgu
    clear hr hgl hgu hb
    try simp only [Act.put, List.setIfInBounds_toArray, List.set_cons_zero, List.set_cons_succ]
    go_wp2_with (first | (refine opG_loadB rfl rfl rfl P.out Try.underlying44 rfl rfl ?_) | (refine opG_load1 rfl rfl rfl P.out rfl Try.underlying3 rfl ?_) | (refine op_loadId rfl rfl rfl X.out (HRT.out) ?_) |  fail)
    refine (HR7.out _).mono ?_
    rintro e w3 ⟨rfl, hb⟩
    replace HB := hid (Grow.trans HB.out hb)
    replace P := hid (grow_block P.out hb)
    replace X := hid (grow_block X.out hb)
    clear hb
    go_wp2_with (first | (refine opG_loadB rfl rfl rfl P.out Try.underlying44 rfl rfl ?_) | (refine opG_load1 rfl rfl rfl P.out rfl Try.underlying3 rfl ?_) | (refine op_loadId rfl rfl rfl X.out (HRT.out) ?_) |  fail)
    refine (HKB.out _).mono ?_
    rintro e w4 ⟨rfl, hb⟩
    replace HB := hid (Grow.trans HB.out hb)
    replace P := hid (grow_block P.out hb)
    replace X := hid (grow_block X.out hb)
    clear hb
    go_wp2_with (first | (refine opG_loadB rfl rfl rfl P.out Try.underlying44 rfl rfl ?_) | (refine opG_load1 rfl rfl rfl P.out rfl Try.underlying3 rfl ?_) | (refine op_loadId rfl rfl rfl X.out (HRT.out) ?_) |  (refine op_allocstore (l := zero8 32) rfl rfl rfl rfl rfl rfl (fun _ => rfl) ⟨fun _ => rfl, rfl⟩ ?_))
    intro g8 w5 hgl hgu hb hr
    have H8L := hid (Nat.le_trans HB.out.size hgl)
    replace HB := hid (Grow.trans HB.out hb)
    replace P := hid (grow_block P.out hb)
    replace X := hid (grow_block X.out hb)
    have H8 := hid hr; have H8U := hid hgu
    clear hr hgl hgu hb
    try simp only [Act.put, List.setIfInBounds_toArray, List.set_cons_zero, List.set_cons_succ]
    go_wp2_with fail
    (refine' wp_region_head 20 0 [_, _, _, _, _, _, _, _, _, _, _, _, _, _, _, _, _, _, _, _] rfl (by kernel_rfl) (by kernel_rfl) ?hreg1; case' hreg1 => simp only [List.take_succ_cons, List.take_zero, List.zip_cons_cons, List.zip_nil_right, List.drop_succ_cons, List.drop_zero, List.drop_nil])
    (refine' head_loadB rfl ?_ rfl rfl P.out Try.underlying44 rfl rfl ?_; (first | exact fun _ _ _ => trivial | (intro t ht w; cases ht; simp [upE])); try simp only [Act.put, List.setIfInBounds_toArray, List.set_cons_zero, List.set_cons_succ])
    (refine' head_call ?cw2 ?ce2 ?cr2 ?cc2 ?ch2; (case' cw2 => rfl); (case' ce2 => (first | exact fun _ _ _ => trivial | (intro t ht w; cases ht; simp [upE]))); (case' cr2 => (intro w'; go_simp; first | exact ⟨rfl, rfl⟩ | with_reducible rfl)); (case' cc2 => (intro w' hw' _; exact HKR.out w')); (case' ch2 => (try simp only [Act.put, List.setIfInBounds_toArray, List.set_cons_zero, List.set_cons_succ])))
    (refine' head_loadB rfl ?_ rfl rfl P.out Try.underlying44 rfl rfl ?_; (first | exact fun _ _ _ => trivial | (intro t ht w; cases ht; simp [upE])); try simp only [Act.put, List.setIfInBounds_toArray, List.set_cons_zero, List.set_cons_succ])
    (refine' head_call ?cw3 ?ce3 ?cr3 ?cc3 ?ch3; (case' cw3 => rfl); (case' ce3 => (first | exact fun _ _ _ => trivial | (intro t ht w; cases ht; simp [upE]))); (case' cr3 => (intro w'; go_simp; first | exact ⟨rfl, rfl⟩ | with_reducible rfl)); (case' cc3 => (intro w' hw' _; exact HR7.out w')); (case' ch3 => (try simp only [Act.put, List.setIfInBounds_toArray, List.set_cons_zero, List.set_cons_succ])))
    (refine' head_val ?dw4 ?de4 ?dr4 ?dh4; (case' dw4 => rfl); (case' de4 => (first | exact fun _ _ _ => trivial | (intro t ht w; cases ht; simp [upE]))); (case' dr4 => (intro w' hw' _; go_simp; with_reducible rfl)); (case' dh4 => (try simp only [Act.put, List.setIfInBounds_toArray, List.set_cons_zero, List.set_cons_succ]))); (refine' head_val ?dw5 ?de5 ?dr5 ?dh5; (case' dw5 => rfl); (case' de5 => (first | exact fun _ _ _ => trivial | (intro t ht w; cases ht; simp [upE]))); (case' dr5 => (intro w' hw' _; go_simp; with_reducible rfl)); (case' dh5 => (try simp only [Act.put, List.setIfInBounds_toArray, List.set_cons_zero, List.set_cons_succ])))
    (refine' head_loadB rfl ?_ rfl rfl P.out Try.underlying44 rfl rfl ?_; (first | exact fun _ _ _ => trivial | (intro t ht w; cases ht; simp [upE])); try simp only [Act.put, List.setIfInBounds_toArray, List.set_cons_zero, List.set_cons_succ])
    (refine' head_call ?cw6 ?ce6 ?cr6 ?cc6 ?ch6; (case' cw6 => rfl); (case' ce6 => (first | exact fun _ _ _ => trivial | (intro t ht w; cases ht; simp [upE]))); (case' cr6 => (intro w'; go_simp; first | exact ⟨rfl, rfl⟩ | with_reducible rfl)); (case' cc6 => (intro w' hw' _; exact HLV.out w')); (case' ch6 => (try simp only [Act.put, List.setIfInBounds_toArray, List.set_cons_zero, List.set_cons_succ])))
    (refine' head_val ?dw7 ?de7 ?dr7 ?dh7; (case' dw7 => rfl); (case' de7 => (first | exact fun _ _ _ => trivial | (intro t ht w; cases ht; simp [upE]))); (case' dr7 => (intro w' hw' _; go_simp; with_reducible rfl)); (case' dh7 => (try simp only [Act.put, List.setIfInBounds_toArray, List.set_cons_zero, List.set_cons_succ]))); (refine' head_val ?dw8 ?de8 ?dr8 ?dh8; (case' dw8 => rfl); (case' de8 => (first | exact fun _ _ _ => trivial | (intro t ht w; cases ht; simp [upE]))); (case' dr8 => (intro w' hw' _; go_simp; with_reducible rfl)); (case' dh8 => (try simp only [Act.put, List.setIfInBounds_toArray, List.set_cons_zero, List.set_cons_succ]))); (refine' head_val ?dw9 ?de9 ?dr9 ?dh9; (case' dw9 => rfl); (case' de9 => (first | exact fun _ _ _ => trivial | (intro t ht w; cases ht; simp [upE]))); (case' dr9 => (intro w' hw' _; go_simp; with_reducible rfl)); (case' dh9 => (try simp only [Act.put, List.setIfInBounds_toArray, List.set_cons_zero, List.set_cons_succ]))); (refine' head_val ?dw10 ?de10 ?dr10 ?dh10; (case' dw10 => rfl); (case' de10 => (first | exact fun _ _ _ => trivial | (intro t ht w; cases ht; simp [upE]))); (case' dr10 => (intro w' hw' _; go_simp; with_reducible rfl)); (case' dh10 => (try simp only [Act.put, List.setIfInBounds_toArray, List.set_cons_zero, List.set_cons_succ]))); (refine' head_val ?dw11 ?de11 ?dr11 ?dh11; (case' dw11 => rfl); (case' de11 => (first | exact fun _ _ _ => trivial | (intro t ht w; cases ht; simp [upE]))); (case' dr11 => (intro w' hw' _; go_simp; with_reducible rfl)); (case' dh11 => (try simp only [Act.put, List.setIfInBounds_toArray, List.set_cons_zero, List.set_cons_succ]))); (refine' head_val ?dw12 ?de12 ?dr12 ?dh12; (case' dw12 => rfl); (case' de12 => (first | exact fun _ _ _ => trivial | (intro t ht w; cases ht; simp [upE]))); (case' dr12 => (intro w' hw' _; go_simp; with_reducible rfl)); (case' dh12 => (try simp only [Act.put, List.setIfInBounds_toArray, List.set_cons_zero, List.set_cons_succ]))); (refine' head_val ?dw13 ?de13 ?dr13 ?dh13; (case' dw13 => rfl); (case' de13 => (first | exact fun _ _ _ => trivial | (intro t ht w; cases ht; simp [upE]))); (case' dr13 => (intro w' hw' _; go_simp; with_reducible rfl)); (case' dh13 => (try simp only [Act.put, List.setIfInBounds_toArray, List.set_cons_zero, List.set_cons_succ]))); (refine' head_val ?dw14 ?de14 ?dr14 ?dh14; (case' dw14 => rfl); (case' de14 => (first | exact fun _ _ _ => trivial | (intro t ht w; cases ht; simp [upE]))); (case' dr14 => (intro w' hw' _; go_simp; with_reducible rfl)); (case' dh14 => (try simp only [Act.put, List.setIfInBounds_toArray, List.set_cons_zero, List.set_cons_succ]))); (refine' head_val ?dw15 ?de15 ?dr15 ?dh15; (case' dw15 => rfl); (case' de15 => (first | exact fun _ _ _ => trivial | (intro t ht w; cases ht; simp [upE]))); (case' dr15 => (intro w' hw' _; go_simp; with_reducible rfl)); (case' dh15 => (try simp only [Act.put, List.setIfInBounds_toArray, List.set_cons_zero, List.set_cons_succ])))
    (refine' head_skip (V := fun _ _ => True) ?sw16 ?se16 ?sh16; (case' sw16 => rfl); (case' se16 => (first | exact fun _ _ _ => trivial | (intro t ht w; cases ht; simp [upE]))); (case' sh16 => (try simp only [Act.put, List.setIfInBounds_toArray, List.set_cons_zero, List.set_cons_succ]))); (refine' head_skip (V := fun _ _ => True) ?sw17 ?se17 ?sh17; (case' sw17 => rfl); (case' se17 => (first | exact fun _ _ _ => trivial | (intro t ht w; cases ht; simp [upE]))); (case' sh17 => (try simp only [Act.put, List.setIfInBounds_toArray, List.set_cons_zero, List.set_cons_succ])))
    (refine' head_val ?dw18 ?de18 ?dr18 ?dh18; (case' dw18 => rfl); (case' de18 => (first | exact fun _ _ _ => trivial | (intro t ht w; cases ht; simp [upE]))); (case' dr18 => (intro w' hw' _; go_simp; with_reducible rfl)); (case' dh18 => (try simp only [Act.put, List.setIfInBounds_toArray, List.set_cons_zero, List.set_cons_succ])))
    refine head_nil ?_
    intro w6 hb _
    replace HB := hid (Grow.trans HB.out hb)
    replace P := hid (grow_block P.out hb)
    replace X := hid (grow_block X.out hb)
    replace H8 := hid (grow_block H8.out hb)
    clear hb
    refine wpList_nil ?_
    go_wp2_with fail
    (refine' wp_region_head 15 0 [_, _, _, _, _, _, _, _, _, _, _, _, _, _, _] rfl (by kernel_rfl) (by kernel_rfl) ?hreg19; case' hreg19 => simp only [List.take_succ_cons, List.take_zero, List.zip_cons_cons, List.zip_nil_right, List.drop_succ_cons, List.drop_zero, List.drop_nil])
    (refine' head_loadB rfl ?_ rfl rfl P.out Try.underlying44 rfl rfl ?_; (first | exact fun _ _ _ => trivial | (intro t ht w; cases ht; simp [upE])); try simp only [Act.put, List.setIfInBounds_toArray, List.set_cons_zero, List.set_cons_succ])
    (refine' head_call ?cw20 ?ce20 ?cr20 ?cc20 ?ch20; (case' cw20 => rfl); (case' ce20 => (first | exact fun _ _ _ => trivial | (intro t ht w; cases ht; simp [upE]))); (case' cr20 => (intro w'; go_simp; first | exact ⟨rfl, rfl⟩ | with_reducible rfl)); (case' cc20 => (intro w' hw' _; exact HKR.out w')); (case' ch20 => (try simp only [Act.put, List.setIfInBounds_toArray, List.set_cons_zero, List.set_cons_succ])))
    (refine' head_loadB rfl ?_ rfl rfl P.out Try.underlying44 rfl rfl ?_; (first | exact fun _ _ _ => trivial | (intro t ht w; cases ht; simp [upE])); try simp only [Act.put, List.setIfInBounds_toArray, List.set_cons_zero, List.set_cons_succ])
    (refine' head_call ?cw21 ?ce21 ?cr21 ?cc21 ?ch21; (case' cw21 => rfl); (case' ce21 => (first | exact fun _ _ _ => trivial | (intro t ht w; cases ht; simp [upE]))); (case' cr21 => (intro w'; go_simp; first | exact ⟨rfl, rfl⟩ | with_reducible rfl)); (case' cc21 => (intro w' hw' _; exact HR7.out w')); (case' ch21 => (try simp only [Act.put, List.setIfInBounds_toArray, List.set_cons_zero, List.set_cons_succ])))
    (refine' head_val ?dw22 ?de22 ?dr22 ?dh22; (case' dw22 => rfl); (case' de22 => (first | exact fun _ _ _ => trivial | (intro t ht w; cases ht; simp [upE]))); (case' dr22 => (intro w' hw' _; go_simp; with_reducible rfl)); (case' dh22 => (try simp only [Act.put, List.setIfInBounds_toArray, List.set_cons_zero, List.set_cons_succ]))); (refine' head_val ?dw23 ?de23 ?dr23 ?dh23; (case' dw23 => rfl); (case' de23 => (first | exact fun _ _ _ => trivial | (intro t ht w; cases ht; simp [upE]))); (case' dr23 => (intro w' hw' _; go_simp; with_reducible rfl)); (case' dh23 => (try simp only [Act.put, List.setIfInBounds_toArray, List.set_cons_zero, List.set_cons_succ])))
    (refine' head_loadB rfl ?_ rfl rfl P.out Try.underlying44 rfl rfl ?_; (first | exact fun _ _ _ => trivial | (intro t ht w; cases ht; simp [upE])); try simp only [Act.put, List.setIfInBounds_toArray, List.set_cons_zero, List.set_cons_succ])
    (refine' head_call ?cw24 ?ce24 ?cr24 ?cc24 ?ch24; (case' cw24 => rfl); (case' ce24 => (first | exact fun _ _ _ => trivial | (intro t ht w; cases ht; simp [upE]))); (case' cr24 => (intro w'; go_simp; first | exact ⟨rfl, rfl⟩ | with_reducible rfl)); (case' cc24 => (intro w' hw' _; exact HLV.out w')); (case' ch24 => (try simp only [Act.put, List.setIfInBounds_toArray, List.set_cons_zero, List.set_cons_succ])))
    (refine' head_val ?dw25 ?de25 ?dr25 ?dh25; (case' dw25 => rfl); (case' de25 => (first | exact fun _ _ _ => trivial | (intro t ht w; cases ht; simp [upE]))); (case' dr25 => (intro w' hw' _; go_simp; with_reducible rfl)); (case' dh25 => (try simp only [Act.put, List.setIfInBounds_toArray, List.set_cons_zero, List.set_cons_succ]))); (refine' head_val ?dw26 ?de26 ?dr26 ?dh26; (case' dw26 => rfl); (case' de26 => (first | exact fun _ _ _ => trivial | (intro t ht w; cases ht; simp [upE]))); (case' dr26 => (intro w' hw' _; go_simp; with_reducible rfl)); (case' dh26 => (try simp only [Act.put, List.setIfInBounds_toArray, List.set_cons_zero, List.set_cons_succ]))); (refine' head_val ?dw27 ?de27 ?dr27 ?dh27; (case' dw27 => rfl); (case' de27 => (first | exact fun _ _ _ => trivial | (intro t ht w; cases ht; simp [upE]))); (case' dr27 => (intro w' hw' _; go_simp; with_reducible rfl)); (case' dh27 => (try simp only [Act.put, List.setIfInBounds_toArray, List.set_cons_zero, List.set_cons_succ]))); (refine' head_val ?dw28 ?de28 ?dr28 ?dh28; (case' dw28 => rfl); (case' de28 => (first | exact fun _ _ _ => trivial | (intro t ht w; cases ht; simp [upE]))); (case' dr28 => (intro w' hw' _; go_simp; with_reducible rfl)); (case' dh28 => (try simp only [Act.put, List.setIfInBounds_toArray, List.set_cons_zero, List.set_cons_succ])))
    (refine' head_call ?cw29 ?ce29 ?cr29 ?cc29 ?ch29; (case' cw29 => rfl); (case' ce29 => (first | exact fun _ _ _ => trivial | (intro t ht w; cases ht; simp [upE]))); (case' cr29 => (intro w'; go_simp; first | exact ⟨rfl, rfl⟩ | with_reducible rfl)); (case' cc29 => (intro w' hw' _; exact awake07 w')); (case' ch29 => (try simp only [Act.put, List.setIfInBounds_toArray, List.set_cons_zero, List.set_cons_succ])))
    (refine' head_val ?dw30 ?de30 ?dr30 ?dh30; (case' dw30 => rfl); (case' de30 => (first | exact fun _ _ _ => trivial | (intro t ht w; cases ht; simp [upE]))); (case' dr30 => (intro w' hw' _; go_simp; with_reducible rfl)); (case' dh30 => (try simp only [Act.put, List.setIfInBounds_toArray, List.set_cons_zero, List.set_cons_succ]))); (refine' head_val ?dw31 ?de31 ?dr31 ?dh31; (case' dw31 => rfl); (case' de31 => (first | exact fun _ _ _ => trivial | (intro t ht w; cases ht; simp [upE]))); (case' dr31 => (intro w' hw' _; go_simp; with_reducible rfl)); (case' dh31 => (try simp only [Act.put, List.setIfInBounds_toArray, List.set_cons_zero, List.set_cons_succ])))
    refine head_nil ?_
    intro w7 hb _
    replace HB := hid (Grow.trans HB.out hb)
    replace P := hid (grow_block P.out hb)
    replace X := hid (grow_block X.out hb)
    replace H8 := hid (grow_block H8.out hb)
    clear hb
    refine wpList_nil ?_
    go_wp2_with fail
    go_ret
    exact ⟨rfl, HB.out⟩
  · have t1 : decide ((100 : Int) < (seed.size : Int)) = false := by simp; omega
    go_enter Try.func5, Try.ntmps5
    have HB := hid (grow_refl w)
    apply wp_seq_k; intro _ _; apply wp_region_lit
    refine op_boxC (cs := #[.int .i64 b, .int .i64 h]) rfl rfl rfl rfl ?_
    intro gp w8 hgl hgu hb hr
    have PL := hid (Nat.le_trans HB.out.size hgl)
    replace HB := hid (Grow.trans HB.out hb)
    have P := hid hr; have PU := hid hgu
    clear hr hgl hgu hb
    try simp only [Act.put, List.setIfInBounds_toArray, List.set_cons_zero, List.set_cons_succ]
    refine op_box (l := root) rfl rfl rfl ?_
    intro g5 w9 hgl hgu hb hr
    have XL := hid (Nat.le_trans HB.out.size hgl)
    replace HB := hid (Grow.trans HB.out hb)
    replace P := hid (grow_block P.out hb)
    have X := hid hr; have XU := hid hgu
    clear hr hgl hgu hb
    try simp only [Act.put, List.setIfInBounds_toArray, List.set_cons_zero, List.set_cons_succ]
    go_wp2_with (first | (refine opG_loadB rfl rfl rfl P.out Try.underlying44 rfl rfl ?_) | (refine opG_load1 rfl rfl rfl P.out rfl Try.underlying3 rfl ?_) | (refine opG_loadB rfl rfl rfl P.out Try.underlying44 rfl rfl ?_) | (refine opG_load1 rfl rfl rfl P.out rfl Try.underlying3 rfl ?_) | (refine op_loadId rfl rfl rfl X.out (HRT.out) ?_) |  fail)
    refine (HR7.out _).mono ?_
    rintro e w10 ⟨rfl, hb⟩
    replace HB := hid (Grow.trans HB.out hb)
    replace P := hid (grow_block P.out hb)
    replace X := hid (grow_block X.out hb)
    clear hb
    go_wp2_with (first | (refine opG_loadB rfl rfl rfl P.out Try.underlying44 rfl rfl ?_) | (refine opG_load1 rfl rfl rfl P.out rfl Try.underlying3 rfl ?_) | (refine opG_loadB rfl rfl rfl P.out Try.underlying44 rfl rfl ?_) | (refine opG_load1 rfl rfl rfl P.out rfl Try.underlying3 rfl ?_) | (refine op_loadId rfl rfl rfl X.out (HRT.out) ?_) |  fail)
    refine (HKB.out _).mono ?_
    rintro e w11 ⟨rfl, hb⟩
    replace HB := hid (Grow.trans HB.out hb)
    replace P := hid (grow_block P.out hb)
    replace X := hid (grow_block X.out hb)
    clear hb
    go_wp2_with (first | (refine opG_loadB rfl rfl rfl P.out Try.underlying44 rfl rfl ?_) | (refine opG_load1 rfl rfl rfl P.out rfl Try.underlying3 rfl ?_) | (refine opG_loadB rfl rfl rfl P.out Try.underlying44 rfl rfl ?_) | (refine opG_load1 rfl rfl rfl P.out rfl Try.underlying3 rfl ?_) | (refine op_loadId rfl rfl rfl X.out (HRT.out) ?_) |  (refine op_allocstore (l := zero8 32) rfl rfl rfl rfl rfl rfl (fun _ => rfl) ⟨fun _ => rfl, rfl⟩ ?_))
    intro g8 w12 hgl hgu hb hr
    have H8L := hid (Nat.le_trans HB.out.size hgl)
    replace HB := hid (Grow.trans HB.out hb)
    replace P := hid (grow_block P.out hb)
    replace X := hid (grow_block X.out hb)
    have H8 := hid hr; have H8U := hid hgu
    clear hr hgl hgu hb
    try simp only [Act.put, List.setIfInBounds_toArray, List.set_cons_zero, List.set_cons_succ]
    go_wp2_with fail
    (refine' wp_region_head 20 0 [_, _, _, _, _, _, _, _, _, _, _, _, _, _, _, _, _, _, _, _] rfl (by kernel_rfl) (by kernel_rfl) ?hreg32; case' hreg32 => simp only [List.take_succ_cons, List.take_zero, List.zip_cons_cons, List.zip_nil_right, List.drop_succ_cons, List.drop_zero, List.drop_nil])
    (refine' head_loadB rfl ?_ rfl rfl P.out Try.underlying44 rfl rfl ?_; (first | exact fun _ _ _ => trivial | (intro t ht w; cases ht; simp [upE])); try simp only [Act.put, List.setIfInBounds_toArray, List.set_cons_zero, List.set_cons_succ])
    (refine' head_call ?cw33 ?ce33 ?cr33 ?cc33 ?ch33; (case' cw33 => rfl); (case' ce33 => (first | exact fun _ _ _ => trivial | (intro t ht w; cases ht; simp [upE]))); (case' cr33 => (intro w'; go_simp; first | exact ⟨rfl, rfl⟩ | with_reducible rfl)); (case' cc33 => (intro w' hw' _; exact HKR.out w')); (case' ch33 => (try simp only [Act.put, List.setIfInBounds_toArray, List.set_cons_zero, List.set_cons_succ])))
    (refine' head_loadB rfl ?_ rfl rfl P.out Try.underlying44 rfl rfl ?_; (first | exact fun _ _ _ => trivial | (intro t ht w; cases ht; simp [upE])); try simp only [Act.put, List.setIfInBounds_toArray, List.set_cons_zero, List.set_cons_succ])
    (refine' head_call ?cw34 ?ce34 ?cr34 ?cc34 ?ch34; (case' cw34 => rfl); (case' ce34 => (first | exact fun _ _ _ => trivial | (intro t ht w; cases ht; simp [upE]))); (case' cr34 => (intro w'; go_simp; first | exact ⟨rfl, rfl⟩ | with_reducible rfl)); (case' cc34 => (intro w' hw' _; exact HR7.out w')); (case' ch34 => (try simp only [Act.put, List.setIfInBounds_toArray, List.set_cons_zero, List.set_cons_succ])))
    (refine' head_val ?dw35 ?de35 ?dr35 ?dh35; (case' dw35 => rfl); (case' de35 => (first | exact fun _ _ _ => trivial | (intro t ht w; cases ht; simp [upE]))); (case' dr35 => (intro w' hw' _; go_simp; with_reducible rfl)); (case' dh35 => (try simp only [Act.put, List.setIfInBounds_toArray, List.set_cons_zero, List.set_cons_succ]))); (refine' head_val ?dw36 ?de36 ?dr36 ?dh36; (case' dw36 => rfl); (case' de36 => (first | exact fun _ _ _ => trivial | (intro t ht w; cases ht; simp [upE]))); (case' dr36 => (intro w' hw' _; go_simp; with_reducible rfl)); (case' dh36 => (try simp only [Act.put, List.setIfInBounds_toArray, List.set_cons_zero, List.set_cons_succ])))
    (refine' head_loadB rfl ?_ rfl rfl P.out Try.underlying44 rfl rfl ?_; (first | exact fun _ _ _ => trivial | (intro t ht w; cases ht; simp [upE])); try simp only [Act.put, List.setIfInBounds_toArray, List.set_cons_zero, List.set_cons_succ])
    (refine' head_call ?cw37 ?ce37 ?cr37 ?cc37 ?ch37; (case' cw37 => rfl); (case' ce37 => (first | exact fun _ _ _ => trivial | (intro t ht w; cases ht; simp [upE]))); (case' cr37 => (intro w'; go_simp; first | exact ⟨rfl, rfl⟩ | with_reducible rfl)); (case' cc37 => (intro w' hw' _; exact HLV.out w')); (case' ch37 => (try simp only [Act.put, List.setIfInBounds_toArray, List.set_cons_zero, List.set_cons_succ])))
    (refine' head_val ?dw38 ?de38 ?dr38 ?dh38; (case' dw38 => rfl); (case' de38 => (first | exact fun _ _ _ => trivial | (intro t ht w; cases ht; simp [upE]))); (case' dr38 => (intro w' hw' _; go_simp; with_reducible rfl)); (case' dh38 => (try simp only [Act.put, List.setIfInBounds_toArray, List.set_cons_zero, List.set_cons_succ]))); (refine' head_val ?dw39 ?de39 ?dr39 ?dh39; (case' dw39 => rfl); (case' de39 => (first | exact fun _ _ _ => trivial | (intro t ht w; cases ht; simp [upE]))); (case' dr39 => (intro w' hw' _; go_simp; with_reducible rfl)); (case' dh39 => (try simp only [Act.put, List.setIfInBounds_toArray, List.set_cons_zero, List.set_cons_succ]))); (refine' head_val ?dw40 ?de40 ?dr40 ?dh40; (case' dw40 => rfl); (case' de40 => (first | exact fun _ _ _ => trivial | (intro t ht w; cases ht; simp [upE]))); (case' dr40 => (intro w' hw' _; go_simp; with_reducible rfl)); (case' dh40 => (try simp only [Act.put, List.setIfInBounds_toArray, List.set_cons_zero, List.set_cons_succ]))); (refine' head_val ?dw41 ?de41 ?dr41 ?dh41; (case' dw41 => rfl); (case' de41 => (first | exact fun _ _ _ => trivial | (intro t ht w; cases ht; simp [upE]))); (case' dr41 => (intro w' hw' _; go_simp; with_reducible rfl)); (case' dh41 => (try simp only [Act.put, List.setIfInBounds_toArray, List.set_cons_zero, List.set_cons_succ]))); (refine' head_val ?dw42 ?de42 ?dr42 ?dh42; (case' dw42 => rfl); (case' de42 => (first | exact fun _ _ _ => trivial | (intro t ht w; cases ht; simp [upE]))); (case' dr42 => (intro w' hw' _; go_simp; with_reducible rfl)); (case' dh42 => (try simp only [Act.put, List.setIfInBounds_toArray, List.set_cons_zero, List.set_cons_succ]))); (refine' head_val ?dw43 ?de43 ?dr43 ?dh43; (case' dw43 => rfl); (case' de43 => (first | exact fun _ _ _ => trivial | (intro t ht w; cases ht; simp [upE]))); (case' dr43 => (intro w' hw' _; go_simp; with_reducible rfl)); (case' dh43 => (try simp only [Act.put, List.setIfInBounds_toArray, List.set_cons_zero, List.set_cons_succ]))); (refine' head_val ?dw44 ?de44 ?dr44 ?dh44; (case' dw44 => rfl); (case' de44 => (first | exact fun _ _ _ => trivial | (intro t ht w; cases ht; simp [upE]))); (case' dr44 => (intro w' hw' _; go_simp; with_reducible rfl)); (case' dh44 => (try simp only [Act.put, List.setIfInBounds_toArray, List.set_cons_zero, List.set_cons_succ]))); (refine' head_val ?dw45 ?de45 ?dr45 ?dh45; (case' dw45 => rfl); (case' de45 => (first | exact fun _ _ _ => trivial | (intro t ht w; cases ht; simp [upE]))); (case' dr45 => (intro w' hw' _; go_simp; with_reducible rfl)); (case' dh45 => (try simp only [Act.put, List.setIfInBounds_toArray, List.set_cons_zero, List.set_cons_succ]))); (refine' head_val ?dw46 ?de46 ?dr46 ?dh46; (case' dw46 => rfl); (case' de46 => (first | exact fun _ _ _ => trivial | (intro t ht w; cases ht; simp [upE]))); (case' dr46 => (intro w' hw' _; go_simp; with_reducible rfl)); (case' dh46 => (try simp only [Act.put, List.setIfInBounds_toArray, List.set_cons_zero, List.set_cons_succ])))
    (refine' head_loadB rfl ?_ rfl rfl P.out Try.underlying44 rfl rfl ?_; (first | exact fun _ _ _ => trivial | (intro t ht w; cases ht; simp [upE])); try simp only [Act.put, List.setIfInBounds_toArray, List.set_cons_zero, List.set_cons_succ])
    (refine' head_call ?cw47 ?ce47 ?cr47 ?cc47 ?ch47; (case' cw47 => rfl); (case' ce47 => (first | exact fun _ _ _ => trivial | (intro t ht w; cases ht; simp [upE]))); (case' cr47 => (intro w'; go_simp; first | exact ⟨rfl, rfl⟩ | with_reducible rfl)); (case' cc47 => (intro w' hw' _; exact HLG.out w')); (case' ch47 => (try simp only [Act.put, List.setIfInBounds_toArray, List.set_cons_zero, List.set_cons_succ])))
    (refine' head_val ?dw48 ?de48 ?dr48 ?dh48; (case' dw48 => rfl); (case' de48 => (first | exact fun _ _ _ => trivial | (intro t ht w; cases ht; simp [upE]))); (case' dr48 => (intro w' hw' _; go_simp; with_reducible rfl)); (case' dh48 => (try simp only [Act.put, List.setIfInBounds_toArray, List.set_cons_zero, List.set_cons_succ])))
    refine head_nil ?_
    intro w13 hb _
    replace HB := hid (Grow.trans HB.out hb)
    replace P := hid (grow_block P.out hb)
    replace X := hid (grow_block X.out hb)
    replace H8 := hid (grow_block H8.out hb)
    clear hb
    refine wpList_nil ?_
    go_wp2_with (first | (refine opG_loadB rfl rfl rfl P.out Try.underlying44 rfl rfl ?_) | (refine opG_load1 rfl rfl rfl P.out rfl Try.underlying3 rfl ?_) | (refine opG_loadB rfl rfl rfl P.out Try.underlying44 rfl rfl ?_) | (refine opG_load1 rfl rfl rfl P.out rfl Try.underlying3 rfl ?_) | (refine op_loadId rfl rfl rfl X.out (HRT.out) ?_) |  fail)
    refine (HOB.out _).mono ?_
    rintro e w14 ⟨rfl, hb⟩
    replace HB := hid (Grow.trans HB.out hb)
    replace P := hid (grow_block P.out hb)
    replace X := hid (grow_block X.out hb)
    replace H8 := hid (grow_block H8.out hb)
    clear hb
    go_wp2_with (first | (refine opG_loadB rfl rfl rfl P.out Try.underlying44 rfl rfl ?_) | (refine opG_load1 rfl rfl rfl P.out rfl Try.underlying3 rfl ?_) | (refine opG_loadB rfl rfl rfl P.out Try.underlying44 rfl rfl ?_) | (refine opG_load1 rfl rfl rfl P.out rfl Try.underlying3 rfl ?_) | (refine op_loadId rfl rfl rfl X.out (HRT.out) ?_) |  (refine op_allocstore (l := zero8 32) rfl rfl rfl rfl rfl rfl (fun _ => rfl) ⟨fun _ => rfl, rfl⟩ ?_))
    intro g10 w15 hgl hgu hb hr
    have H10L := hid (Nat.le_trans HB.out.size hgl)
    replace HB := hid (Grow.trans HB.out hb)
    replace P := hid (grow_block P.out hb)
    replace X := hid (grow_block X.out hb)
    replace H8 := hid (grow_block H8.out hb)
    have H10 := hid hr; have H10U := hid hgu
    clear hr hgl hgu hb
    try simp only [Act.put, List.setIfInBounds_toArray, List.set_cons_zero, List.set_cons_succ]
    go_wp2_with (first | (refine opG_loadId rfl rfl rfl H8.out rfl ?_) | (refine opG_loadId rfl rfl rfl H10.out rfl ?_) | (refine opG_buildId rfl rfl ?_))
    refine (awake07 _).mono ?_
    rintro e w16 ⟨rfl, hb⟩
    replace HB := hid (Grow.trans HB.out hb)
    replace P := hid (grow_block P.out hb)
    replace X := hid (grow_block X.out hb)
    replace H8 := hid (grow_block H8.out hb)
    replace H10 := hid (grow_block H10.out hb)
    clear hb
    go_wp2
    go_ret
    exact ⟨rfl, HB.out⟩
theorem keytreeKeys_good (b h : Int) (seed : ByteArray) (hsz : seed.size ≤ 140737488351232) (root : IdK) (hroot : root.length = 32) (hk : ktB b h = true) (w : World) :
    Calls Try.prog 5 #[.agg #[.int .i64 b, .int .i64 h], .string seed, idV root] w fun e w' => e = .returned (.bool true) ∧ Below w.heap.size w w' := by
  obtain ⟨b1, b2, b3, b4⟩ := kt_bounds hk
  obtain ⟨b, rfl⟩ : ∃ n : Nat, b = (n : Int) := ⟨b.toNat, by omega⟩
  obtain ⟨h, rfl⟩ : ∃ n : Nat, h = (n : Int) := ⟨h.toNat, by omega⟩
  have HRT := hid hroot
  have HKG := hid (fun w => ktKey b h root hroot hk w)
  have HOG := hid (fun (hs : seed.size ≤ 1000000) w => ktOfC seed hs b h hk w)
  have HK7 := hid (fun w => refKey7 b h root hroot (by omega) (by omega) w)
  have HO7 := hid (fun (hs : seed.size ≤ 1000000) w => refOf7 seed hs b h (by omega) (by omega) w)
  have HR7 := hid (fun w => refRight7 b h w)
  have HKR := hid (fun w => ktRight b h w)
  have HPW := hid (fun w => refPower7 h (by omega) w)
  rw [hk] at HR7 HKR
  have HLV := hid (fun w => ktLeaves b h (2 ^ h) (by rw [hk]; simp) w)
  have HLG := hid (fun w => large7 b h w)
  rw [hk, Bool.true_and] at HLG
  have L1 := hid (keyOf_length b h root)
  have L2 := hid (ktOf_length seed b h)
  have hpos : 0 < 2 ^ h := Nat.pow_pos (by omega)
  generalize 2 ^ h = n at *
  generalize keyOf b h root = k1 at *
  generalize ktOf seed b h = k2 at *
  have hq1 := id_eql_self k1 L1.out
  have hq2 := id_guard .eql k1 k1
  have hq3 := id_eql_self k2 L2.out
  have hq4 := id_guard .eql k2 k2
  have t0 : ((n : Int) == 0) = false := by simp; omega
  clear hk hroot b1 b2 b3 b4 hpos
  by_cases h100 : 100 < seed.size
  · have t1 : decide ((100 : Int) < (seed.size : Int)) = true := by simp; omega
    go_enter Try.func5, Try.ntmps5
    have HB := hid (grow_refl w)
    apply wp_seq_k; intro _ _; apply wp_region_lit
    refine op_boxC (cs := #[.int .i64 (b : Int), .int .i64 (h : Int)]) rfl rfl rfl rfl ?_
    intro gp w1 hgl hgu hb hr
    have PL := hid (Nat.le_trans HB.out.size hgl)
    replace HB := hid (Grow.trans HB.out hb)
    have P := hid hr; have PU := hid hgu
    clear hr hgl hgu hb
    try simp only [Act.put, List.setIfInBounds_toArray, List.set_cons_zero, List.set_cons_succ]
    refine op_box (l := root) rfl rfl rfl ?_
    intro g5 w2 hgl hgu hb hr
    have XL := hid (Nat.le_trans HB.out.size hgl)
    replace HB := hid (Grow.trans HB.out hb)
    replace P := hid (grow_block P.out hb)
    have X := hid hr; have XU := hid hgu
    clear hr hgl hgu hb
    try simp only [Act.put, List.setIfInBounds_toArray, List.set_cons_zero, List.set_cons_succ]
    go_wp2_with (first | (refine opG_loadB rfl rfl rfl P.out Try.underlying44 rfl rfl ?_) | (refine opG_load1 rfl rfl rfl P.out rfl Try.underlying3 rfl ?_) | (refine op_loadId rfl rfl rfl X.out (HRT.out) ?_) |  fail)
    refine (HR7.out _).mono ?_
    rintro e w3 ⟨rfl, hb⟩
    replace HB := hid (Grow.trans HB.out hb)
    replace P := hid (grow_block P.out hb)
    replace X := hid (grow_block X.out hb)
    clear hb
    go_wp2_with (first | (refine opG_loadB rfl rfl rfl P.out Try.underlying44 rfl rfl ?_) | (refine opG_load1 rfl rfl rfl P.out rfl Try.underlying3 rfl ?_) | (refine op_loadId rfl rfl rfl X.out (HRT.out) ?_) |  fail)
    refine (HPW.out _).mono ?_
    rintro e w4 ⟨rfl, hb⟩
    replace HB := hid (Grow.trans HB.out hb)
    replace P := hid (grow_block P.out hb)
    replace X := hid (grow_block X.out hb)
    clear hb
    go_wp2_with (first | (refine opG_loadB rfl rfl rfl P.out Try.underlying44 rfl rfl ?_) | (refine opG_load1 rfl rfl rfl P.out rfl Try.underlying3 rfl ?_) | (refine op_loadId rfl rfl rfl X.out (HRT.out) ?_) |  fail)
    refine (HKG.out _).mono ?_
    rintro e w5 ⟨rfl, hb⟩
    replace HB := hid (Grow.trans HB.out hb)
    replace P := hid (grow_block P.out hb)
    replace X := hid (grow_block X.out hb)
    clear hb
    go_wp2_with (first | (refine opG_loadB rfl rfl rfl P.out Try.underlying44 rfl rfl ?_) | (refine opG_load1 rfl rfl rfl P.out rfl Try.underlying3 rfl ?_) | (refine op_loadId rfl rfl rfl X.out (HRT.out) ?_) |  (refine op_allocstore (l := k1) rfl rfl rfl rfl rfl rfl (fun _ => rfl) ⟨fun _ => rfl, L1.out⟩ ?_))
    intro g8 w6 hgl hgu hb hr
    have H8L := hid (Nat.le_trans HB.out.size hgl)
    replace HB := hid (Grow.trans HB.out hb)
    replace P := hid (grow_block P.out hb)
    replace X := hid (grow_block X.out hb)
    have H8 := hid hr; have H8U := hid hgu
    clear hr hgl hgu hb
    try simp only [Act.put, List.setIfInBounds_toArray, List.set_cons_zero, List.set_cons_succ]
    go_wp2_with fail
    (refine' wp_region_head 20 0 [_, _, _, _, _, _, _, _, _, _, _, _, _, _, _, _, _, _, _, _] rfl (by kernel_rfl) (by kernel_rfl) ?hreg49; case' hreg49 => simp only [List.take_succ_cons, List.take_zero, List.zip_cons_cons, List.zip_nil_right, List.drop_succ_cons, List.drop_zero, List.drop_nil])
    (refine' head_loadB rfl ?_ rfl rfl P.out Try.underlying44 rfl rfl ?_; (first | exact fun _ _ _ => trivial | (intro t ht w; cases ht; simp [upE])); try simp only [Act.put, List.setIfInBounds_toArray, List.set_cons_zero, List.set_cons_succ])
    (refine' head_call ?cw50 ?ce50 ?cr50 ?cc50 ?ch50; (case' cw50 => rfl); (case' ce50 => (first | exact fun _ _ _ => trivial | (intro t ht w; cases ht; simp [upE]))); (case' cr50 => (intro w'; go_simp; first | exact ⟨rfl, rfl⟩ | with_reducible rfl)); (case' cc50 => (intro w' hw' _; exact HKR.out w')); (case' ch50 => (try simp only [Act.put, List.setIfInBounds_toArray, List.set_cons_zero, List.set_cons_succ])))
    (refine' head_loadB rfl ?_ rfl rfl P.out Try.underlying44 rfl rfl ?_; (first | exact fun _ _ _ => trivial | (intro t ht w; cases ht; simp [upE])); try simp only [Act.put, List.setIfInBounds_toArray, List.set_cons_zero, List.set_cons_succ])
    (refine' head_call ?cw51 ?ce51 ?cr51 ?cc51 ?ch51; (case' cw51 => rfl); (case' ce51 => (first | exact fun _ _ _ => trivial | (intro t ht w; cases ht; simp [upE]))); (case' cr51 => (intro w'; go_simp; first | exact ⟨rfl, rfl⟩ | with_reducible rfl)); (case' cc51 => (intro w' hw' _; exact HR7.out w')); (case' ch51 => (try simp only [Act.put, List.setIfInBounds_toArray, List.set_cons_zero, List.set_cons_succ])))
    (refine' head_val ?dw52 ?de52 ?dr52 ?dh52; (case' dw52 => rfl); (case' de52 => (first | exact fun _ _ _ => trivial | (intro t ht w; cases ht; simp [upE]))); (case' dr52 => (intro w' hw' _; go_simp; with_reducible rfl)); (case' dh52 => (try simp only [Act.put, List.setIfInBounds_toArray, List.set_cons_zero, List.set_cons_succ]))); (refine' head_val ?dw53 ?de53 ?dr53 ?dh53; (case' dw53 => rfl); (case' de53 => (first | exact fun _ _ _ => trivial | (intro t ht w; cases ht; simp [upE]))); (case' dr53 => (intro w' hw' _; go_simp; with_reducible rfl)); (case' dh53 => (try simp only [Act.put, List.setIfInBounds_toArray, List.set_cons_zero, List.set_cons_succ])))
    (refine' head_loadB rfl ?_ rfl rfl P.out Try.underlying44 rfl rfl ?_; (first | exact fun _ _ _ => trivial | (intro t ht w; cases ht; simp [upE])); try simp only [Act.put, List.setIfInBounds_toArray, List.set_cons_zero, List.set_cons_succ])
    (refine' head_call ?cw54 ?ce54 ?cr54 ?cc54 ?ch54; (case' cw54 => rfl); (case' ce54 => (first | exact fun _ _ _ => trivial | (intro t ht w; cases ht; simp [upE]))); (case' cr54 => (intro w'; go_simp; first | exact ⟨rfl, rfl⟩ | with_reducible rfl)); (case' cc54 => (intro w' hw' _; exact HLV.out w')); (case' ch54 => (try simp only [Act.put, List.setIfInBounds_toArray, List.set_cons_zero, List.set_cons_succ])))
    (refine' head_val ?dw55 ?de55 ?dr55 ?dh55; (case' dw55 => rfl); (case' de55 => (first | exact fun _ _ _ => trivial | (intro t ht w; cases ht; simp [upE]))); (case' dr55 => (intro w' hw' _; go_simp; with_reducible rfl)); (case' dh55 => (try simp only [Act.put, List.setIfInBounds_toArray, List.set_cons_zero, List.set_cons_succ]))); (refine' head_val ?dw56 ?de56 ?dr56 ?dh56; (case' dw56 => rfl); (case' de56 => (first | exact fun _ _ _ => trivial | (intro t ht w; cases ht; simp [upE]))); (case' dr56 => (intro w' hw' _; go_simp; with_reducible rfl)); (case' dh56 => (try simp only [Act.put, List.setIfInBounds_toArray, List.set_cons_zero, List.set_cons_succ]))); (refine' head_val ?dw57 ?de57 ?dr57 ?dh57; (case' dw57 => rfl); (case' de57 => (first | exact fun _ _ _ => trivial | (intro t ht w; cases ht; simp [upE]))); (case' dr57 => (intro w' hw' _; go_simp; with_reducible rfl)); (case' dh57 => (try simp only [Act.put, List.setIfInBounds_toArray, List.set_cons_zero, List.set_cons_succ]))); (refine' head_val ?dw58 ?de58 ?dr58 ?dh58; (case' dw58 => rfl); (case' de58 => (first | exact fun _ _ _ => trivial | (intro t ht w; cases ht; simp [upE]))); (case' dr58 => (intro w' hw' _; go_simp; with_reducible rfl)); (case' dh58 => (try simp only [Act.put, List.setIfInBounds_toArray, List.set_cons_zero, List.set_cons_succ]))); (refine' head_val ?dw59 ?de59 ?dr59 ?dh59; (case' dw59 => rfl); (case' de59 => (first | exact fun _ _ _ => trivial | (intro t ht w; cases ht; simp [upE]))); (case' dr59 => (intro w' hw' _; go_simp; with_reducible rfl)); (case' dh59 => (try simp only [Act.put, List.setIfInBounds_toArray, List.set_cons_zero, List.set_cons_succ]))); (refine' head_val ?dw60 ?de60 ?dr60 ?dh60; (case' dw60 => rfl); (case' de60 => (first | exact fun _ _ _ => trivial | (intro t ht w; cases ht; simp [upE]))); (case' dr60 => (intro w' hw' _; go_simp; with_reducible rfl)); (case' dh60 => (try simp only [Act.put, List.setIfInBounds_toArray, List.set_cons_zero, List.set_cons_succ]))); (refine' head_val ?dw61 ?de61 ?dr61 ?dh61; (case' dw61 => rfl); (case' de61 => (first | exact fun _ _ _ => trivial | (intro t ht w; cases ht; simp [upE]))); (case' dr61 => (intro w' hw' _; go_simp; with_reducible rfl)); (case' dh61 => (try simp only [Act.put, List.setIfInBounds_toArray, List.set_cons_zero, List.set_cons_succ]))); (refine' head_val ?dw62 ?de62 ?dr62 ?dh62; (case' dw62 => rfl); (case' de62 => (first | exact fun _ _ _ => trivial | (intro t ht w; cases ht; simp [upE]))); (case' dr62 => (intro w' hw' _; go_simp; with_reducible rfl)); (case' dh62 => (try simp only [Act.put, List.setIfInBounds_toArray, List.set_cons_zero, List.set_cons_succ]))); (refine' head_val ?dw63 ?de63 ?dr63 ?dh63; (case' dw63 => rfl); (case' de63 => (first | exact fun _ _ _ => trivial | (intro t ht w; cases ht; simp [upE]))); (case' dr63 => (intro w' hw' _; go_simp; with_reducible rfl)); (case' dh63 => (try simp only [Act.put, List.setIfInBounds_toArray, List.set_cons_zero, List.set_cons_succ])))
    (refine' head_skip (V := fun _ _ => True) ?sw64 ?se64 ?sh64; (case' sw64 => rfl); (case' se64 => (first | exact fun _ _ _ => trivial | (intro t ht w; cases ht; simp [upE]))); (case' sh64 => (try simp only [Act.put, List.setIfInBounds_toArray, List.set_cons_zero, List.set_cons_succ]))); (refine' head_skip (V := fun _ _ => True) ?sw65 ?se65 ?sh65; (case' sw65 => rfl); (case' se65 => (first | exact fun _ _ _ => trivial | (intro t ht w; cases ht; simp [upE]))); (case' sh65 => (try simp only [Act.put, List.setIfInBounds_toArray, List.set_cons_zero, List.set_cons_succ])))
    (refine' head_val ?dw66 ?de66 ?dr66 ?dh66; (case' dw66 => rfl); (case' de66 => (first | exact fun _ _ _ => trivial | (intro t ht w; cases ht; simp [upE]))); (case' dr66 => (intro w' hw' _; go_simp; with_reducible rfl)); (case' dh66 => (try simp only [Act.put, List.setIfInBounds_toArray, List.set_cons_zero, List.set_cons_succ])))
    refine head_nil ?_
    intro w7 hb _
    replace HB := hid (Grow.trans HB.out hb)
    replace P := hid (grow_block P.out hb)
    replace X := hid (grow_block X.out hb)
    replace H8 := hid (grow_block H8.out hb)
    clear hb
    refine wpList_nil ?_
    go_wp2_with fail
    (refine' wp_region_head 15 0 [_, _, _, _, _, _, _, _, _, _, _, _, _, _, _] rfl (by kernel_rfl) (by kernel_rfl) ?hreg67; case' hreg67 => simp only [List.take_succ_cons, List.take_zero, List.zip_cons_cons, List.zip_nil_right, List.drop_succ_cons, List.drop_zero, List.drop_nil])
    (refine' head_loadB rfl ?_ rfl rfl P.out Try.underlying44 rfl rfl ?_; (first | exact fun _ _ _ => trivial | (intro t ht w; cases ht; simp [upE])); try simp only [Act.put, List.setIfInBounds_toArray, List.set_cons_zero, List.set_cons_succ])
    (refine' head_call ?cw68 ?ce68 ?cr68 ?cc68 ?ch68; (case' cw68 => rfl); (case' ce68 => (first | exact fun _ _ _ => trivial | (intro t ht w; cases ht; simp [upE]))); (case' cr68 => (intro w'; go_simp; first | exact ⟨rfl, rfl⟩ | with_reducible rfl)); (case' cc68 => (intro w' hw' _; exact HKR.out w')); (case' ch68 => (try simp only [Act.put, List.setIfInBounds_toArray, List.set_cons_zero, List.set_cons_succ])))
    (refine' head_loadB rfl ?_ rfl rfl P.out Try.underlying44 rfl rfl ?_; (first | exact fun _ _ _ => trivial | (intro t ht w; cases ht; simp [upE])); try simp only [Act.put, List.setIfInBounds_toArray, List.set_cons_zero, List.set_cons_succ])
    (refine' head_call ?cw69 ?ce69 ?cr69 ?cc69 ?ch69; (case' cw69 => rfl); (case' ce69 => (first | exact fun _ _ _ => trivial | (intro t ht w; cases ht; simp [upE]))); (case' cr69 => (intro w'; go_simp; first | exact ⟨rfl, rfl⟩ | with_reducible rfl)); (case' cc69 => (intro w' hw' _; exact HR7.out w')); (case' ch69 => (try simp only [Act.put, List.setIfInBounds_toArray, List.set_cons_zero, List.set_cons_succ])))
    (refine' head_val ?dw70 ?de70 ?dr70 ?dh70; (case' dw70 => rfl); (case' de70 => (first | exact fun _ _ _ => trivial | (intro t ht w; cases ht; simp [upE]))); (case' dr70 => (intro w' hw' _; go_simp; with_reducible rfl)); (case' dh70 => (try simp only [Act.put, List.setIfInBounds_toArray, List.set_cons_zero, List.set_cons_succ]))); (refine' head_val ?dw71 ?de71 ?dr71 ?dh71; (case' dw71 => rfl); (case' de71 => (first | exact fun _ _ _ => trivial | (intro t ht w; cases ht; simp [upE]))); (case' dr71 => (intro w' hw' _; go_simp; with_reducible rfl)); (case' dh71 => (try simp only [Act.put, List.setIfInBounds_toArray, List.set_cons_zero, List.set_cons_succ])))
    (refine' head_loadB rfl ?_ rfl rfl P.out Try.underlying44 rfl rfl ?_; (first | exact fun _ _ _ => trivial | (intro t ht w; cases ht; simp [upE])); try simp only [Act.put, List.setIfInBounds_toArray, List.set_cons_zero, List.set_cons_succ])
    (refine' head_call ?cw72 ?ce72 ?cr72 ?cc72 ?ch72; (case' cw72 => rfl); (case' ce72 => (first | exact fun _ _ _ => trivial | (intro t ht w; cases ht; simp [upE]))); (case' cr72 => (intro w'; go_simp; first | exact ⟨rfl, rfl⟩ | with_reducible rfl)); (case' cc72 => (intro w' hw' _; exact HLV.out w')); (case' ch72 => (try simp only [Act.put, List.setIfInBounds_toArray, List.set_cons_zero, List.set_cons_succ])))
    (refine' head_val ?dw73 ?de73 ?dr73 ?dh73; (case' dw73 => rfl); (case' de73 => (first | exact fun _ _ _ => trivial | (intro t ht w; cases ht; simp [upE]))); (case' dr73 => (intro w' hw' _; go_simp; with_reducible rfl)); (case' dh73 => (try simp only [Act.put, List.setIfInBounds_toArray, List.set_cons_zero, List.set_cons_succ]))); (refine' head_val ?dw74 ?de74 ?dr74 ?dh74; (case' dw74 => rfl); (case' de74 => (first | exact fun _ _ _ => trivial | (intro t ht w; cases ht; simp [upE]))); (case' dr74 => (intro w' hw' _; go_simp; with_reducible rfl)); (case' dh74 => (try simp only [Act.put, List.setIfInBounds_toArray, List.set_cons_zero, List.set_cons_succ]))); (refine' head_val ?dw75 ?de75 ?dr75 ?dh75; (case' dw75 => rfl); (case' de75 => (first | exact fun _ _ _ => trivial | (intro t ht w; cases ht; simp [upE]))); (case' dr75 => (intro w' hw' _; go_simp; with_reducible rfl)); (case' dh75 => (try simp only [Act.put, List.setIfInBounds_toArray, List.set_cons_zero, List.set_cons_succ]))); (refine' head_val ?dw76 ?de76 ?dr76 ?dh76; (case' dw76 => rfl); (case' de76 => (first | exact fun _ _ _ => trivial | (intro t ht w; cases ht; simp [upE]))); (case' dr76 => (intro w' hw' _; go_simp; with_reducible rfl)); (case' dh76 => (try simp only [Act.put, List.setIfInBounds_toArray, List.set_cons_zero, List.set_cons_succ])))
    (refine' head_call ?cw77 ?ce77 ?cr77 ?cc77 ?ch77; (case' cw77 => rfl); (case' ce77 => (first | exact fun _ _ _ => trivial | (intro t ht w; cases ht; simp [upE]))); (case' cr77 => (intro w'; go_simp; first | exact ⟨rfl, rfl⟩ | with_reducible rfl)); (case' cc77 => (intro w' hw' _; exact awake07 w')); (case' ch77 => (try simp only [Act.put, List.setIfInBounds_toArray, List.set_cons_zero, List.set_cons_succ])))
    (refine' head_val ?dw78 ?de78 ?dr78 ?dh78; (case' dw78 => rfl); (case' de78 => (first | exact fun _ _ _ => trivial | (intro t ht w; cases ht; simp [upE]))); (case' dr78 => (intro w' hw' _; go_simp; with_reducible rfl)); (case' dh78 => (try simp only [Act.put, List.setIfInBounds_toArray, List.set_cons_zero, List.set_cons_succ]))); (refine' head_val ?dw79 ?de79 ?dr79 ?dh79; (case' dw79 => rfl); (case' de79 => (first | exact fun _ _ _ => trivial | (intro t ht w; cases ht; simp [upE]))); (case' dr79 => (intro w' hw' _; go_simp; with_reducible rfl)); (case' dh79 => (try simp only [Act.put, List.setIfInBounds_toArray, List.set_cons_zero, List.set_cons_succ])))
    refine head_nil ?_
    intro w8 hb _
    replace HB := hid (Grow.trans HB.out hb)
    replace P := hid (grow_block P.out hb)
    replace X := hid (grow_block X.out hb)
    replace H8 := hid (grow_block H8.out hb)
    clear hb
    refine wpList_nil ?_
    go_wp2_with fail
    go_ret
    exact ⟨rfl, HB.out⟩
  · have t1 : decide ((100 : Int) < (seed.size : Int)) = false := by simp; omega
    cases hlg : (decide (16 < (b : Int)) || decide (2 < (h : Int))) with
    | true =>
      rw [hlg] at HLG
      clear hlg
      go_enter Try.func5, Try.ntmps5
      have HB := hid (grow_refl w)
      apply wp_seq_k; intro _ _; apply wp_region_lit
      refine op_boxC (cs := #[.int .i64 (b : Int), .int .i64 (h : Int)]) rfl rfl rfl rfl ?_
      intro gp w9 hgl hgu hb hr
      have PL := hid (Nat.le_trans HB.out.size hgl)
      replace HB := hid (Grow.trans HB.out hb)
      have P := hid hr; have PU := hid hgu
      clear hr hgl hgu hb
      try simp only [Act.put, List.setIfInBounds_toArray, List.set_cons_zero, List.set_cons_succ]
      refine op_box (l := root) rfl rfl rfl ?_
      intro g5 w10 hgl hgu hb hr
      have XL := hid (Nat.le_trans HB.out.size hgl)
      replace HB := hid (Grow.trans HB.out hb)
      replace P := hid (grow_block P.out hb)
      have X := hid hr; have XU := hid hgu
      clear hr hgl hgu hb
      try simp only [Act.put, List.setIfInBounds_toArray, List.set_cons_zero, List.set_cons_succ]
      go_wp2_with (first | (refine opG_loadB rfl rfl rfl P.out Try.underlying44 rfl rfl ?_) | (refine opG_load1 rfl rfl rfl P.out rfl Try.underlying3 rfl ?_) | (refine opG_loadB rfl rfl rfl P.out Try.underlying44 rfl rfl ?_) | (refine opG_load1 rfl rfl rfl P.out rfl Try.underlying3 rfl ?_) | (refine op_loadId rfl rfl rfl X.out (HRT.out) ?_) |  fail)
      refine (HR7.out _).mono ?_
      rintro e w11 ⟨rfl, hb⟩
      replace HB := hid (Grow.trans HB.out hb)
      replace P := hid (grow_block P.out hb)
      replace X := hid (grow_block X.out hb)
      clear hb
      go_wp2_with (first | (refine opG_loadB rfl rfl rfl P.out Try.underlying44 rfl rfl ?_) | (refine opG_load1 rfl rfl rfl P.out rfl Try.underlying3 rfl ?_) | (refine opG_loadB rfl rfl rfl P.out Try.underlying44 rfl rfl ?_) | (refine opG_load1 rfl rfl rfl P.out rfl Try.underlying3 rfl ?_) | (refine op_loadId rfl rfl rfl X.out (HRT.out) ?_) |  fail)
      refine (HPW.out _).mono ?_
      rintro e w12 ⟨rfl, hb⟩
      replace HB := hid (Grow.trans HB.out hb)
      replace P := hid (grow_block P.out hb)
      replace X := hid (grow_block X.out hb)
      clear hb
      go_wp2_with (first | (refine opG_loadB rfl rfl rfl P.out Try.underlying44 rfl rfl ?_) | (refine opG_load1 rfl rfl rfl P.out rfl Try.underlying3 rfl ?_) | (refine opG_loadB rfl rfl rfl P.out Try.underlying44 rfl rfl ?_) | (refine opG_load1 rfl rfl rfl P.out rfl Try.underlying3 rfl ?_) | (refine op_loadId rfl rfl rfl X.out (HRT.out) ?_) |  fail)
      refine (HKG.out _).mono ?_
      rintro e w13 ⟨rfl, hb⟩
      replace HB := hid (Grow.trans HB.out hb)
      replace P := hid (grow_block P.out hb)
      replace X := hid (grow_block X.out hb)
      clear hb
      go_wp2_with (first | (refine opG_loadB rfl rfl rfl P.out Try.underlying44 rfl rfl ?_) | (refine opG_load1 rfl rfl rfl P.out rfl Try.underlying3 rfl ?_) | (refine opG_loadB rfl rfl rfl P.out Try.underlying44 rfl rfl ?_) | (refine opG_load1 rfl rfl rfl P.out rfl Try.underlying3 rfl ?_) | (refine op_loadId rfl rfl rfl X.out (HRT.out) ?_) |  (refine op_allocstore (l := k1) rfl rfl rfl rfl rfl rfl (fun _ => rfl) ⟨fun _ => rfl, L1.out⟩ ?_))
      intro g8 w14 hgl hgu hb hr
      have H8L := hid (Nat.le_trans HB.out.size hgl)
      replace HB := hid (Grow.trans HB.out hb)
      replace P := hid (grow_block P.out hb)
      replace X := hid (grow_block X.out hb)
      have H8 := hid hr; have H8U := hid hgu
      clear hr hgl hgu hb
      try simp only [Act.put, List.setIfInBounds_toArray, List.set_cons_zero, List.set_cons_succ]
      go_wp2_with fail
      (refine' wp_region_head 20 0 [_, _, _, _, _, _, _, _, _, _, _, _, _, _, _, _, _, _, _, _] rfl (by kernel_rfl) (by kernel_rfl) ?hreg80; case' hreg80 => simp only [List.take_succ_cons, List.take_zero, List.zip_cons_cons, List.zip_nil_right, List.drop_succ_cons, List.drop_zero, List.drop_nil])
      (refine' head_loadB rfl ?_ rfl rfl P.out Try.underlying44 rfl rfl ?_; (first | exact fun _ _ _ => trivial | (intro t ht w; cases ht; simp [upE])); try simp only [Act.put, List.setIfInBounds_toArray, List.set_cons_zero, List.set_cons_succ])
      (refine' head_call ?cw81 ?ce81 ?cr81 ?cc81 ?ch81; (case' cw81 => rfl); (case' ce81 => (first | exact fun _ _ _ => trivial | (intro t ht w; cases ht; simp [upE]))); (case' cr81 => (intro w'; go_simp; first | exact ⟨rfl, rfl⟩ | with_reducible rfl)); (case' cc81 => (intro w' hw' _; exact HKR.out w')); (case' ch81 => (try simp only [Act.put, List.setIfInBounds_toArray, List.set_cons_zero, List.set_cons_succ])))
      (refine' head_loadB rfl ?_ rfl rfl P.out Try.underlying44 rfl rfl ?_; (first | exact fun _ _ _ => trivial | (intro t ht w; cases ht; simp [upE])); try simp only [Act.put, List.setIfInBounds_toArray, List.set_cons_zero, List.set_cons_succ])
      (refine' head_call ?cw82 ?ce82 ?cr82 ?cc82 ?ch82; (case' cw82 => rfl); (case' ce82 => (first | exact fun _ _ _ => trivial | (intro t ht w; cases ht; simp [upE]))); (case' cr82 => (intro w'; go_simp; first | exact ⟨rfl, rfl⟩ | with_reducible rfl)); (case' cc82 => (intro w' hw' _; exact HR7.out w')); (case' ch82 => (try simp only [Act.put, List.setIfInBounds_toArray, List.set_cons_zero, List.set_cons_succ])))
      (refine' head_val ?dw83 ?de83 ?dr83 ?dh83; (case' dw83 => rfl); (case' de83 => (first | exact fun _ _ _ => trivial | (intro t ht w; cases ht; simp [upE]))); (case' dr83 => (intro w' hw' _; go_simp; with_reducible rfl)); (case' dh83 => (try simp only [Act.put, List.setIfInBounds_toArray, List.set_cons_zero, List.set_cons_succ]))); (refine' head_val ?dw84 ?de84 ?dr84 ?dh84; (case' dw84 => rfl); (case' de84 => (first | exact fun _ _ _ => trivial | (intro t ht w; cases ht; simp [upE]))); (case' dr84 => (intro w' hw' _; go_simp; with_reducible rfl)); (case' dh84 => (try simp only [Act.put, List.setIfInBounds_toArray, List.set_cons_zero, List.set_cons_succ])))
      (refine' head_loadB rfl ?_ rfl rfl P.out Try.underlying44 rfl rfl ?_; (first | exact fun _ _ _ => trivial | (intro t ht w; cases ht; simp [upE])); try simp only [Act.put, List.setIfInBounds_toArray, List.set_cons_zero, List.set_cons_succ])
      (refine' head_call ?cw85 ?ce85 ?cr85 ?cc85 ?ch85; (case' cw85 => rfl); (case' ce85 => (first | exact fun _ _ _ => trivial | (intro t ht w; cases ht; simp [upE]))); (case' cr85 => (intro w'; go_simp; first | exact ⟨rfl, rfl⟩ | with_reducible rfl)); (case' cc85 => (intro w' hw' _; exact HLV.out w')); (case' ch85 => (try simp only [Act.put, List.setIfInBounds_toArray, List.set_cons_zero, List.set_cons_succ])))
      (refine' head_val ?dw86 ?de86 ?dr86 ?dh86; (case' dw86 => rfl); (case' de86 => (first | exact fun _ _ _ => trivial | (intro t ht w; cases ht; simp [upE]))); (case' dr86 => (intro w' hw' _; go_simp; with_reducible rfl)); (case' dh86 => (try simp only [Act.put, List.setIfInBounds_toArray, List.set_cons_zero, List.set_cons_succ]))); (refine' head_val ?dw87 ?de87 ?dr87 ?dh87; (case' dw87 => rfl); (case' de87 => (first | exact fun _ _ _ => trivial | (intro t ht w; cases ht; simp [upE]))); (case' dr87 => (intro w' hw' _; go_simp; with_reducible rfl)); (case' dh87 => (try simp only [Act.put, List.setIfInBounds_toArray, List.set_cons_zero, List.set_cons_succ]))); (refine' head_val ?dw88 ?de88 ?dr88 ?dh88; (case' dw88 => rfl); (case' de88 => (first | exact fun _ _ _ => trivial | (intro t ht w; cases ht; simp [upE]))); (case' dr88 => (intro w' hw' _; go_simp; with_reducible rfl)); (case' dh88 => (try simp only [Act.put, List.setIfInBounds_toArray, List.set_cons_zero, List.set_cons_succ]))); (refine' head_val ?dw89 ?de89 ?dr89 ?dh89; (case' dw89 => rfl); (case' de89 => (first | exact fun _ _ _ => trivial | (intro t ht w; cases ht; simp [upE]))); (case' dr89 => (intro w' hw' _; go_simp; with_reducible rfl)); (case' dh89 => (try simp only [Act.put, List.setIfInBounds_toArray, List.set_cons_zero, List.set_cons_succ]))); (refine' head_val ?dw90 ?de90 ?dr90 ?dh90; (case' dw90 => rfl); (case' de90 => (first | exact fun _ _ _ => trivial | (intro t ht w; cases ht; simp [upE]))); (case' dr90 => (intro w' hw' _; go_simp; with_reducible rfl)); (case' dh90 => (try simp only [Act.put, List.setIfInBounds_toArray, List.set_cons_zero, List.set_cons_succ]))); (refine' head_val ?dw91 ?de91 ?dr91 ?dh91; (case' dw91 => rfl); (case' de91 => (first | exact fun _ _ _ => trivial | (intro t ht w; cases ht; simp [upE]))); (case' dr91 => (intro w' hw' _; go_simp; with_reducible rfl)); (case' dh91 => (try simp only [Act.put, List.setIfInBounds_toArray, List.set_cons_zero, List.set_cons_succ]))); (refine' head_val ?dw92 ?de92 ?dr92 ?dh92; (case' dw92 => rfl); (case' de92 => (first | exact fun _ _ _ => trivial | (intro t ht w; cases ht; simp [upE]))); (case' dr92 => (intro w' hw' _; go_simp; with_reducible rfl)); (case' dh92 => (try simp only [Act.put, List.setIfInBounds_toArray, List.set_cons_zero, List.set_cons_succ]))); (refine' head_val ?dw93 ?de93 ?dr93 ?dh93; (case' dw93 => rfl); (case' de93 => (first | exact fun _ _ _ => trivial | (intro t ht w; cases ht; simp [upE]))); (case' dr93 => (intro w' hw' _; go_simp; with_reducible rfl)); (case' dh93 => (try simp only [Act.put, List.setIfInBounds_toArray, List.set_cons_zero, List.set_cons_succ]))); (refine' head_val ?dw94 ?de94 ?dr94 ?dh94; (case' dw94 => rfl); (case' de94 => (first | exact fun _ _ _ => trivial | (intro t ht w; cases ht; simp [upE]))); (case' dr94 => (intro w' hw' _; go_simp; with_reducible rfl)); (case' dh94 => (try simp only [Act.put, List.setIfInBounds_toArray, List.set_cons_zero, List.set_cons_succ])))
      (refine' head_loadB rfl ?_ rfl rfl P.out Try.underlying44 rfl rfl ?_; (first | exact fun _ _ _ => trivial | (intro t ht w; cases ht; simp [upE])); try simp only [Act.put, List.setIfInBounds_toArray, List.set_cons_zero, List.set_cons_succ])
      (refine' head_call ?cw95 ?ce95 ?cr95 ?cc95 ?ch95; (case' cw95 => rfl); (case' ce95 => (first | exact fun _ _ _ => trivial | (intro t ht w; cases ht; simp [upE]))); (case' cr95 => (intro w'; go_simp; first | exact ⟨rfl, rfl⟩ | with_reducible rfl)); (case' cc95 => (intro w' hw' _; exact HLG.out w')); (case' ch95 => (try simp only [Act.put, List.setIfInBounds_toArray, List.set_cons_zero, List.set_cons_succ])))
      (refine' head_val ?dw96 ?de96 ?dr96 ?dh96; (case' dw96 => rfl); (case' de96 => (first | exact fun _ _ _ => trivial | (intro t ht w; cases ht; simp [upE]))); (case' dr96 => (intro w' hw' _; go_simp; with_reducible rfl)); (case' dh96 => (try simp only [Act.put, List.setIfInBounds_toArray, List.set_cons_zero, List.set_cons_succ])))
      refine head_nil ?_
      intro w15 hb _
      replace HB := hid (Grow.trans HB.out hb)
      replace P := hid (grow_block P.out hb)
      replace X := hid (grow_block X.out hb)
      replace H8 := hid (grow_block H8.out hb)
      clear hb
      refine wpList_nil ?_
      go_wp2_with fail
      (refine' wp_region_head 15 0 [_, _, _, _, _, _, _, _, _, _, _, _, _, _, _] rfl (by kernel_rfl) (by kernel_rfl) ?hreg97; case' hreg97 => simp only [List.take_succ_cons, List.take_zero, List.zip_cons_cons, List.zip_nil_right, List.drop_succ_cons, List.drop_zero, List.drop_nil])
      (refine' head_loadB rfl ?_ rfl rfl P.out Try.underlying44 rfl rfl ?_; (first | exact fun _ _ _ => trivial | (intro t ht w; cases ht; simp [upE])); try simp only [Act.put, List.setIfInBounds_toArray, List.set_cons_zero, List.set_cons_succ])
      (refine' head_call ?cw98 ?ce98 ?cr98 ?cc98 ?ch98; (case' cw98 => rfl); (case' ce98 => (first | exact fun _ _ _ => trivial | (intro t ht w; cases ht; simp [upE]))); (case' cr98 => (intro w'; go_simp; first | exact ⟨rfl, rfl⟩ | with_reducible rfl)); (case' cc98 => (intro w' hw' _; exact HKR.out w')); (case' ch98 => (try simp only [Act.put, List.setIfInBounds_toArray, List.set_cons_zero, List.set_cons_succ])))
      (refine' head_loadB rfl ?_ rfl rfl P.out Try.underlying44 rfl rfl ?_; (first | exact fun _ _ _ => trivial | (intro t ht w; cases ht; simp [upE])); try simp only [Act.put, List.setIfInBounds_toArray, List.set_cons_zero, List.set_cons_succ])
      (refine' head_call ?cw99 ?ce99 ?cr99 ?cc99 ?ch99; (case' cw99 => rfl); (case' ce99 => (first | exact fun _ _ _ => trivial | (intro t ht w; cases ht; simp [upE]))); (case' cr99 => (intro w'; go_simp; first | exact ⟨rfl, rfl⟩ | with_reducible rfl)); (case' cc99 => (intro w' hw' _; exact HR7.out w')); (case' ch99 => (try simp only [Act.put, List.setIfInBounds_toArray, List.set_cons_zero, List.set_cons_succ])))
      (refine' head_val ?dw100 ?de100 ?dr100 ?dh100; (case' dw100 => rfl); (case' de100 => (first | exact fun _ _ _ => trivial | (intro t ht w; cases ht; simp [upE]))); (case' dr100 => (intro w' hw' _; go_simp; with_reducible rfl)); (case' dh100 => (try simp only [Act.put, List.setIfInBounds_toArray, List.set_cons_zero, List.set_cons_succ]))); (refine' head_val ?dw101 ?de101 ?dr101 ?dh101; (case' dw101 => rfl); (case' de101 => (first | exact fun _ _ _ => trivial | (intro t ht w; cases ht; simp [upE]))); (case' dr101 => (intro w' hw' _; go_simp; with_reducible rfl)); (case' dh101 => (try simp only [Act.put, List.setIfInBounds_toArray, List.set_cons_zero, List.set_cons_succ])))
      (refine' head_loadB rfl ?_ rfl rfl P.out Try.underlying44 rfl rfl ?_; (first | exact fun _ _ _ => trivial | (intro t ht w; cases ht; simp [upE])); try simp only [Act.put, List.setIfInBounds_toArray, List.set_cons_zero, List.set_cons_succ])
      (refine' head_call ?cw102 ?ce102 ?cr102 ?cc102 ?ch102; (case' cw102 => rfl); (case' ce102 => (first | exact fun _ _ _ => trivial | (intro t ht w; cases ht; simp [upE]))); (case' cr102 => (intro w'; go_simp; first | exact ⟨rfl, rfl⟩ | with_reducible rfl)); (case' cc102 => (intro w' hw' _; exact HLV.out w')); (case' ch102 => (try simp only [Act.put, List.setIfInBounds_toArray, List.set_cons_zero, List.set_cons_succ])))
      (refine' head_val ?dw103 ?de103 ?dr103 ?dh103; (case' dw103 => rfl); (case' de103 => (first | exact fun _ _ _ => trivial | (intro t ht w; cases ht; simp [upE]))); (case' dr103 => (intro w' hw' _; go_simp; with_reducible rfl)); (case' dh103 => (try simp only [Act.put, List.setIfInBounds_toArray, List.set_cons_zero, List.set_cons_succ]))); (refine' head_val ?dw104 ?de104 ?dr104 ?dh104; (case' dw104 => rfl); (case' de104 => (first | exact fun _ _ _ => trivial | (intro t ht w; cases ht; simp [upE]))); (case' dr104 => (intro w' hw' _; go_simp; with_reducible rfl)); (case' dh104 => (try simp only [Act.put, List.setIfInBounds_toArray, List.set_cons_zero, List.set_cons_succ]))); (refine' head_val ?dw105 ?de105 ?dr105 ?dh105; (case' dw105 => rfl); (case' de105 => (first | exact fun _ _ _ => trivial | (intro t ht w; cases ht; simp [upE]))); (case' dr105 => (intro w' hw' _; go_simp; with_reducible rfl)); (case' dh105 => (try simp only [Act.put, List.setIfInBounds_toArray, List.set_cons_zero, List.set_cons_succ]))); (refine' head_val ?dw106 ?de106 ?dr106 ?dh106; (case' dw106 => rfl); (case' de106 => (first | exact fun _ _ _ => trivial | (intro t ht w; cases ht; simp [upE]))); (case' dr106 => (intro w' hw' _; go_simp; with_reducible rfl)); (case' dh106 => (try simp only [Act.put, List.setIfInBounds_toArray, List.set_cons_zero, List.set_cons_succ])))
      (refine' head_call ?cw107 ?ce107 ?cr107 ?cc107 ?ch107; (case' cw107 => rfl); (case' ce107 => (first | exact fun _ _ _ => trivial | (intro t ht w; cases ht; simp [upE]))); (case' cr107 => (intro w'; go_simp; first | exact ⟨rfl, rfl⟩ | with_reducible rfl)); (case' cc107 => (intro w' hw' _; exact awake07 w')); (case' ch107 => (try simp only [Act.put, List.setIfInBounds_toArray, List.set_cons_zero, List.set_cons_succ])))
      (refine' head_val ?dw108 ?de108 ?dr108 ?dh108; (case' dw108 => rfl); (case' de108 => (first | exact fun _ _ _ => trivial | (intro t ht w; cases ht; simp [upE]))); (case' dr108 => (intro w' hw' _; go_simp; with_reducible rfl)); (case' dh108 => (try simp only [Act.put, List.setIfInBounds_toArray, List.set_cons_zero, List.set_cons_succ]))); (refine' head_val ?dw109 ?de109 ?dr109 ?dh109; (case' dw109 => rfl); (case' de109 => (first | exact fun _ _ _ => trivial | (intro t ht w; cases ht; simp [upE]))); (case' dr109 => (intro w' hw' _; go_simp; with_reducible rfl)); (case' dh109 => (try simp only [Act.put, List.setIfInBounds_toArray, List.set_cons_zero, List.set_cons_succ])))
      refine head_nil ?_
      intro w16 hb _
      replace HB := hid (Grow.trans HB.out hb)
      replace P := hid (grow_block P.out hb)
      replace X := hid (grow_block X.out hb)
      replace H8 := hid (grow_block H8.out hb)
      clear hb
      refine wpList_nil ?_
      go_wp2_with fail
      go_ret
      exact ⟨rfl, HB.out⟩
    | false =>
      rw [hlg] at HLG
      clear hlg
      have hs : seed.size ≤ 1000000 := by omega
      go_enter Try.func5, Try.ntmps5
      have HB := hid (grow_refl w)
      apply wp_seq_k; intro _ _; apply wp_region_lit
      refine op_boxC (cs := #[.int .i64 (b : Int), .int .i64 (h : Int)]) rfl rfl rfl rfl ?_
      intro gp w17 hgl hgu hb hr
      have PL := hid (Nat.le_trans HB.out.size hgl)
      replace HB := hid (Grow.trans HB.out hb)
      have P := hid hr; have PU := hid hgu
      clear hr hgl hgu hb
      try simp only [Act.put, List.setIfInBounds_toArray, List.set_cons_zero, List.set_cons_succ]
      refine op_box (l := root) rfl rfl rfl ?_
      intro g5 w18 hgl hgu hb hr
      have XL := hid (Nat.le_trans HB.out.size hgl)
      replace HB := hid (Grow.trans HB.out hb)
      replace P := hid (grow_block P.out hb)
      have X := hid hr; have XU := hid hgu
      clear hr hgl hgu hb
      try simp only [Act.put, List.setIfInBounds_toArray, List.set_cons_zero, List.set_cons_succ]
      go_wp2_with (first | (refine opG_loadB rfl rfl rfl P.out Try.underlying44 rfl rfl ?_) | (refine opG_load1 rfl rfl rfl P.out rfl Try.underlying3 rfl ?_) | (refine opG_loadB rfl rfl rfl P.out Try.underlying44 rfl rfl ?_) | (refine opG_load1 rfl rfl rfl P.out rfl Try.underlying3 rfl ?_) | (refine opG_loadB rfl rfl rfl P.out Try.underlying44 rfl rfl ?_) | (refine opG_load1 rfl rfl rfl P.out rfl Try.underlying3 rfl ?_) | (refine op_loadId rfl rfl rfl X.out (HRT.out) ?_) |  fail)
      refine (HR7.out _).mono ?_
      rintro e w19 ⟨rfl, hb⟩
      replace HB := hid (Grow.trans HB.out hb)
      replace P := hid (grow_block P.out hb)
      replace X := hid (grow_block X.out hb)
      clear hb
      go_wp2_with (first | (refine opG_loadB rfl rfl rfl P.out Try.underlying44 rfl rfl ?_) | (refine opG_load1 rfl rfl rfl P.out rfl Try.underlying3 rfl ?_) | (refine opG_loadB rfl rfl rfl P.out Try.underlying44 rfl rfl ?_) | (refine opG_load1 rfl rfl rfl P.out rfl Try.underlying3 rfl ?_) | (refine opG_loadB rfl rfl rfl P.out Try.underlying44 rfl rfl ?_) | (refine opG_load1 rfl rfl rfl P.out rfl Try.underlying3 rfl ?_) | (refine op_loadId rfl rfl rfl X.out (HRT.out) ?_) |  fail)
      refine (HPW.out _).mono ?_
      rintro e w20 ⟨rfl, hb⟩
      replace HB := hid (Grow.trans HB.out hb)
      replace P := hid (grow_block P.out hb)
      replace X := hid (grow_block X.out hb)
      clear hb
      go_wp2_with (first | (refine opG_loadB rfl rfl rfl P.out Try.underlying44 rfl rfl ?_) | (refine opG_load1 rfl rfl rfl P.out rfl Try.underlying3 rfl ?_) | (refine opG_loadB rfl rfl rfl P.out Try.underlying44 rfl rfl ?_) | (refine opG_load1 rfl rfl rfl P.out rfl Try.underlying3 rfl ?_) | (refine opG_loadB rfl rfl rfl P.out Try.underlying44 rfl rfl ?_) | (refine opG_load1 rfl rfl rfl P.out rfl Try.underlying3 rfl ?_) | (refine op_loadId rfl rfl rfl X.out (HRT.out) ?_) |  fail)
      refine (HKG.out _).mono ?_
      rintro e w21 ⟨rfl, hb⟩
      replace HB := hid (Grow.trans HB.out hb)
      replace P := hid (grow_block P.out hb)
      replace X := hid (grow_block X.out hb)
      clear hb
      go_wp2_with (first | (refine opG_loadB rfl rfl rfl P.out Try.underlying44 rfl rfl ?_) | (refine opG_load1 rfl rfl rfl P.out rfl Try.underlying3 rfl ?_) | (refine opG_loadB rfl rfl rfl P.out Try.underlying44 rfl rfl ?_) | (refine opG_load1 rfl rfl rfl P.out rfl Try.underlying3 rfl ?_) | (refine opG_loadB rfl rfl rfl P.out Try.underlying44 rfl rfl ?_) | (refine opG_load1 rfl rfl rfl P.out rfl Try.underlying3 rfl ?_) | (refine op_loadId rfl rfl rfl X.out (HRT.out) ?_) |  (refine op_allocstore (l := k1) rfl rfl rfl rfl rfl rfl (fun _ => rfl) ⟨fun _ => rfl, L1.out⟩ ?_))
      intro g8 w22 hgl hgu hb hr
      have H8L := hid (Nat.le_trans HB.out.size hgl)
      replace HB := hid (Grow.trans HB.out hb)
      replace P := hid (grow_block P.out hb)
      replace X := hid (grow_block X.out hb)
      have H8 := hid hr; have H8U := hid hgu
      clear hr hgl hgu hb
      try simp only [Act.put, List.setIfInBounds_toArray, List.set_cons_zero, List.set_cons_succ]
      go_wp2_with fail
      (refine' wp_region_head 20 0 [_, _, _, _, _, _, _, _, _, _, _, _, _, _, _, _, _, _, _, _] rfl (by kernel_rfl) (by kernel_rfl) ?hreg110; case' hreg110 => simp only [List.take_succ_cons, List.take_zero, List.zip_cons_cons, List.zip_nil_right, List.drop_succ_cons, List.drop_zero, List.drop_nil])
      (refine' head_loadB rfl ?_ rfl rfl P.out Try.underlying44 rfl rfl ?_; (first | exact fun _ _ _ => trivial | (intro t ht w; cases ht; simp [upE])); try simp only [Act.put, List.setIfInBounds_toArray, List.set_cons_zero, List.set_cons_succ])
      (refine' head_call ?cw111 ?ce111 ?cr111 ?cc111 ?ch111; (case' cw111 => rfl); (case' ce111 => (first | exact fun _ _ _ => trivial | (intro t ht w; cases ht; simp [upE]))); (case' cr111 => (intro w'; go_simp; first | exact ⟨rfl, rfl⟩ | with_reducible rfl)); (case' cc111 => (intro w' hw' _; exact HKR.out w')); (case' ch111 => (try simp only [Act.put, List.setIfInBounds_toArray, List.set_cons_zero, List.set_cons_succ])))
      (refine' head_loadB rfl ?_ rfl rfl P.out Try.underlying44 rfl rfl ?_; (first | exact fun _ _ _ => trivial | (intro t ht w; cases ht; simp [upE])); try simp only [Act.put, List.setIfInBounds_toArray, List.set_cons_zero, List.set_cons_succ])
      (refine' head_call ?cw112 ?ce112 ?cr112 ?cc112 ?ch112; (case' cw112 => rfl); (case' ce112 => (first | exact fun _ _ _ => trivial | (intro t ht w; cases ht; simp [upE]))); (case' cr112 => (intro w'; go_simp; first | exact ⟨rfl, rfl⟩ | with_reducible rfl)); (case' cc112 => (intro w' hw' _; exact HR7.out w')); (case' ch112 => (try simp only [Act.put, List.setIfInBounds_toArray, List.set_cons_zero, List.set_cons_succ])))
      (refine' head_val ?dw113 ?de113 ?dr113 ?dh113; (case' dw113 => rfl); (case' de113 => (first | exact fun _ _ _ => trivial | (intro t ht w; cases ht; simp [upE]))); (case' dr113 => (intro w' hw' _; go_simp; with_reducible rfl)); (case' dh113 => (try simp only [Act.put, List.setIfInBounds_toArray, List.set_cons_zero, List.set_cons_succ]))); (refine' head_val ?dw114 ?de114 ?dr114 ?dh114; (case' dw114 => rfl); (case' de114 => (first | exact fun _ _ _ => trivial | (intro t ht w; cases ht; simp [upE]))); (case' dr114 => (intro w' hw' _; go_simp; with_reducible rfl)); (case' dh114 => (try simp only [Act.put, List.setIfInBounds_toArray, List.set_cons_zero, List.set_cons_succ])))
      (refine' head_loadB rfl ?_ rfl rfl P.out Try.underlying44 rfl rfl ?_; (first | exact fun _ _ _ => trivial | (intro t ht w; cases ht; simp [upE])); try simp only [Act.put, List.setIfInBounds_toArray, List.set_cons_zero, List.set_cons_succ])
      (refine' head_call ?cw115 ?ce115 ?cr115 ?cc115 ?ch115; (case' cw115 => rfl); (case' ce115 => (first | exact fun _ _ _ => trivial | (intro t ht w; cases ht; simp [upE]))); (case' cr115 => (intro w'; go_simp; first | exact ⟨rfl, rfl⟩ | with_reducible rfl)); (case' cc115 => (intro w' hw' _; exact HLV.out w')); (case' ch115 => (try simp only [Act.put, List.setIfInBounds_toArray, List.set_cons_zero, List.set_cons_succ])))
      (refine' head_val ?dw116 ?de116 ?dr116 ?dh116; (case' dw116 => rfl); (case' de116 => (first | exact fun _ _ _ => trivial | (intro t ht w; cases ht; simp [upE]))); (case' dr116 => (intro w' hw' _; go_simp; with_reducible rfl)); (case' dh116 => (try simp only [Act.put, List.setIfInBounds_toArray, List.set_cons_zero, List.set_cons_succ]))); (refine' head_val ?dw117 ?de117 ?dr117 ?dh117; (case' dw117 => rfl); (case' de117 => (first | exact fun _ _ _ => trivial | (intro t ht w; cases ht; simp [upE]))); (case' dr117 => (intro w' hw' _; go_simp; with_reducible rfl)); (case' dh117 => (try simp only [Act.put, List.setIfInBounds_toArray, List.set_cons_zero, List.set_cons_succ]))); (refine' head_val ?dw118 ?de118 ?dr118 ?dh118; (case' dw118 => rfl); (case' de118 => (first | exact fun _ _ _ => trivial | (intro t ht w; cases ht; simp [upE]))); (case' dr118 => (intro w' hw' _; go_simp; with_reducible rfl)); (case' dh118 => (try simp only [Act.put, List.setIfInBounds_toArray, List.set_cons_zero, List.set_cons_succ]))); (refine' head_val ?dw119 ?de119 ?dr119 ?dh119; (case' dw119 => rfl); (case' de119 => (first | exact fun _ _ _ => trivial | (intro t ht w; cases ht; simp [upE]))); (case' dr119 => (intro w' hw' _; go_simp; with_reducible rfl)); (case' dh119 => (try simp only [Act.put, List.setIfInBounds_toArray, List.set_cons_zero, List.set_cons_succ]))); (refine' head_val ?dw120 ?de120 ?dr120 ?dh120; (case' dw120 => rfl); (case' de120 => (first | exact fun _ _ _ => trivial | (intro t ht w; cases ht; simp [upE]))); (case' dr120 => (intro w' hw' _; go_simp; with_reducible rfl)); (case' dh120 => (try simp only [Act.put, List.setIfInBounds_toArray, List.set_cons_zero, List.set_cons_succ]))); (refine' head_val ?dw121 ?de121 ?dr121 ?dh121; (case' dw121 => rfl); (case' de121 => (first | exact fun _ _ _ => trivial | (intro t ht w; cases ht; simp [upE]))); (case' dr121 => (intro w' hw' _; go_simp; with_reducible rfl)); (case' dh121 => (try simp only [Act.put, List.setIfInBounds_toArray, List.set_cons_zero, List.set_cons_succ]))); (refine' head_val ?dw122 ?de122 ?dr122 ?dh122; (case' dw122 => rfl); (case' de122 => (first | exact fun _ _ _ => trivial | (intro t ht w; cases ht; simp [upE]))); (case' dr122 => (intro w' hw' _; go_simp; with_reducible rfl)); (case' dh122 => (try simp only [Act.put, List.setIfInBounds_toArray, List.set_cons_zero, List.set_cons_succ]))); (refine' head_val ?dw123 ?de123 ?dr123 ?dh123; (case' dw123 => rfl); (case' de123 => (first | exact fun _ _ _ => trivial | (intro t ht w; cases ht; simp [upE]))); (case' dr123 => (intro w' hw' _; go_simp; with_reducible rfl)); (case' dh123 => (try simp only [Act.put, List.setIfInBounds_toArray, List.set_cons_zero, List.set_cons_succ]))); (refine' head_val ?dw124 ?de124 ?dr124 ?dh124; (case' dw124 => rfl); (case' de124 => (first | exact fun _ _ _ => trivial | (intro t ht w; cases ht; simp [upE]))); (case' dr124 => (intro w' hw' _; go_simp; with_reducible rfl)); (case' dh124 => (try simp only [Act.put, List.setIfInBounds_toArray, List.set_cons_zero, List.set_cons_succ])))
      (refine' head_loadB rfl ?_ rfl rfl P.out Try.underlying44 rfl rfl ?_; (first | exact fun _ _ _ => trivial | (intro t ht w; cases ht; simp [upE])); try simp only [Act.put, List.setIfInBounds_toArray, List.set_cons_zero, List.set_cons_succ])
      (refine' head_call ?cw125 ?ce125 ?cr125 ?cc125 ?ch125; (case' cw125 => rfl); (case' ce125 => (first | exact fun _ _ _ => trivial | (intro t ht w; cases ht; simp [upE]))); (case' cr125 => (intro w'; go_simp; first | exact ⟨rfl, rfl⟩ | with_reducible rfl)); (case' cc125 => (intro w' hw' _; exact HLG.out w')); (case' ch125 => (try simp only [Act.put, List.setIfInBounds_toArray, List.set_cons_zero, List.set_cons_succ])))
      (refine' head_val ?dw126 ?de126 ?dr126 ?dh126; (case' dw126 => rfl); (case' de126 => (first | exact fun _ _ _ => trivial | (intro t ht w; cases ht; simp [upE]))); (case' dr126 => (intro w' hw' _; go_simp; with_reducible rfl)); (case' dh126 => (try simp only [Act.put, List.setIfInBounds_toArray, List.set_cons_zero, List.set_cons_succ])))
      refine head_nil ?_
      intro w23 hb _
      replace HB := hid (Grow.trans HB.out hb)
      replace P := hid (grow_block P.out hb)
      replace X := hid (grow_block X.out hb)
      replace H8 := hid (grow_block H8.out hb)
      clear hb
      refine wpList_nil ?_
      go_wp2_with (first | (refine opG_loadB rfl rfl rfl P.out Try.underlying44 rfl rfl ?_) | (refine opG_load1 rfl rfl rfl P.out rfl Try.underlying3 rfl ?_) | (refine opG_loadB rfl rfl rfl P.out Try.underlying44 rfl rfl ?_) | (refine opG_load1 rfl rfl rfl P.out rfl Try.underlying3 rfl ?_) | (refine opG_loadB rfl rfl rfl P.out Try.underlying44 rfl rfl ?_) | (refine opG_load1 rfl rfl rfl P.out rfl Try.underlying3 rfl ?_) | (refine op_loadId rfl rfl rfl X.out (HRT.out) ?_) |  fail)
      refine (HOG.out hs _).mono ?_
      rintro e w24 ⟨rfl, hb⟩
      replace HB := hid (Grow.trans HB.out hb)
      replace P := hid (grow_block P.out hb)
      replace X := hid (grow_block X.out hb)
      replace H8 := hid (grow_block H8.out hb)
      clear hb
      go_wp2_with (first | (refine opG_loadB rfl rfl rfl P.out Try.underlying44 rfl rfl ?_) | (refine opG_load1 rfl rfl rfl P.out rfl Try.underlying3 rfl ?_) | (refine opG_loadB rfl rfl rfl P.out Try.underlying44 rfl rfl ?_) | (refine opG_load1 rfl rfl rfl P.out rfl Try.underlying3 rfl ?_) | (refine opG_loadB rfl rfl rfl P.out Try.underlying44 rfl rfl ?_) | (refine opG_load1 rfl rfl rfl P.out rfl Try.underlying3 rfl ?_) | (refine op_loadId rfl rfl rfl X.out (HRT.out) ?_) |  (refine op_allocstore (l := k2) rfl rfl rfl rfl rfl rfl (fun _ => rfl) ⟨fun _ => rfl, L2.out⟩ ?_))
      intro g10 w25 hgl hgu hb hr
      have H10L := hid (Nat.le_trans HB.out.size hgl)
      replace HB := hid (Grow.trans HB.out hb)
      replace P := hid (grow_block P.out hb)
      replace X := hid (grow_block X.out hb)
      replace H8 := hid (grow_block H8.out hb)
      have H10 := hid hr; have H10U := hid hgu
      clear hr hgl hgu hb
      try simp only [Act.put, List.setIfInBounds_toArray, List.set_cons_zero, List.set_cons_succ]
      go_wp2_with fail
      (refine' wp_region_head 24 0 [_, _, _, _, _, _, _, _, _, _, _, _, _, _, _, _, _, _, _, _, _, _, _, _] rfl (by kernel_rfl) (by kernel_rfl) ?hreg127; case' hreg127 => simp only [List.take_succ_cons, List.take_zero, List.zip_cons_cons, List.zip_nil_right, List.drop_succ_cons, List.drop_zero, List.drop_nil])
      (refine' head_loadId (x := _) rfl ?_ rfl rfl H8.out (L1.out) ?_; (first | exact fun _ _ _ => trivial | (intro t ht w; cases ht; simp [upE])); try simp only [Act.put, List.setIfInBounds_toArray, List.set_cons_zero, List.set_cons_succ])
      (refine' head_loadB rfl ?_ rfl rfl P.out Try.underlying44 rfl rfl ?_; (first | exact fun _ _ _ => trivial | (intro t ht w; cases ht; simp [upE])); try simp only [Act.put, List.setIfInBounds_toArray, List.set_cons_zero, List.set_cons_succ])
      (refine' head_loadId (x := _) rfl ?_ rfl rfl X.out (HRT.out) ?_; (first | exact fun _ _ _ => trivial | (intro t ht w; cases ht; simp [upE])); try simp only [Act.put, List.setIfInBounds_toArray, List.set_cons_zero, List.set_cons_succ])
      (refine' head_call ?cw128 ?ce128 ?cr128 ?cc128 ?ch128; (case' cw128 => rfl); (case' ce128 => (first | exact fun _ _ _ => trivial | (intro t ht w; cases ht; simp [upE]))); (case' cr128 => (intro w'; go_simp; first | exact ⟨rfl, rfl⟩ | with_reducible rfl)); (case' cc128 => (intro w' hw' _; exact HK7.out w')); (case' ch128 => (try simp only [Act.put, List.setIfInBounds_toArray, List.set_cons_zero, List.set_cons_succ])))
      (refine' head_val ?dw129 ?de129 ?dr129 ?dh129; (case' dw129 => rfl); (case' de129 => (first | exact fun _ _ _ => trivial | (intro t ht w; cases ht; simp [upE]))); (case' dr129 => (intro w' hw' _; go_simp; with_reducible rfl)); (case' dh129 => (try simp only [Act.put, List.setIfInBounds_toArray, List.set_cons_zero, List.set_cons_succ]))); (refine' head_val ?dw130 ?de130 ?dr130 ?dh130; (case' dw130 => rfl); (case' de130 => (first | exact fun _ _ _ => trivial | (intro t ht w; cases ht; simp [upE]))); (case' dr130 => (intro w' hw' _; go_simp; with_reducible rfl)); (case' dh130 => (try simp only [Act.put, List.setIfInBounds_toArray, List.set_cons_zero, List.set_cons_succ]))); (refine' head_val ?dw131 ?de131 ?dr131 ?dh131; (case' dw131 => rfl); (case' de131 => (first | exact fun _ _ _ => trivial | (intro t ht w; cases ht; simp [upE]))); (case' dr131 => (intro w' hw' _; go_simp; with_reducible rfl)); (case' dh131 => (try simp only [Act.put, List.setIfInBounds_toArray, List.set_cons_zero, List.set_cons_succ]))); (refine' head_val ?dw132 ?de132 ?dr132 ?dh132; (case' dw132 => rfl); (case' de132 => (first | exact fun _ _ _ => trivial | (intro t ht w; cases ht; simp [upE]))); (case' dr132 => (intro w' hw' _; go_simp; with_reducible rfl)); (case' dh132 => (try simp only [Act.put, List.setIfInBounds_toArray, List.set_cons_zero, List.set_cons_succ]))); (refine' head_val ?dw133 ?de133 ?dr133 ?dh133; (case' dw133 => rfl); (case' de133 => (first | exact fun _ _ _ => trivial | (intro t ht w; cases ht; simp [upE]))); (case' dr133 => (intro w' hw' _; go_simp; with_reducible rfl)); (case' dh133 => (try simp only [Act.put, List.setIfInBounds_toArray, List.set_cons_zero, List.set_cons_succ]))); (refine' head_val ?dw134 ?de134 ?dr134 ?dh134; (case' dw134 => rfl); (case' de134 => (first | exact fun _ _ _ => trivial | (intro t ht w; cases ht; simp [upE]))); (case' dr134 => (intro w' hw' _; go_simp; with_reducible rfl)); (case' dh134 => (try simp only [Act.put, List.setIfInBounds_toArray, List.set_cons_zero, List.set_cons_succ])))
      (refine' head_loadId (x := _) rfl ?_ rfl rfl H10.out (L2.out) ?_; (first | exact fun _ _ _ => trivial | (intro t ht w; cases ht; simp [upE])); try simp only [Act.put, List.setIfInBounds_toArray, List.set_cons_zero, List.set_cons_succ])
      (refine' head_loadB rfl ?_ rfl rfl P.out Try.underlying44 rfl rfl ?_; (first | exact fun _ _ _ => trivial | (intro t ht w; cases ht; simp [upE])); try simp only [Act.put, List.setIfInBounds_toArray, List.set_cons_zero, List.set_cons_succ])
      (refine' head_val ?dw135 ?de135 ?dr135 ?dh135; (case' dw135 => rfl); (case' de135 => (first | exact fun _ _ _ => trivial | (intro t ht w; cases ht; simp [upE]))); (case' dr135 => (intro w' hw' _; go_simp; with_reducible rfl)); (case' dh135 => (try simp only [Act.put, List.setIfInBounds_toArray, List.set_cons_zero, List.set_cons_succ])))
      (refine' head_call ?cw136 ?ce136 ?cr136 ?cc136 ?ch136; (case' cw136 => rfl); (case' ce136 => (first | exact fun _ _ _ => trivial | (intro t ht w; cases ht; simp [upE]))); (case' cr136 => (intro w'; go_simp; first | exact ⟨rfl, rfl⟩ | with_reducible rfl)); (case' cc136 => (intro w' hw' _; exact HO7.out hs w')); (case' ch136 => (try simp only [Act.put, List.setIfInBounds_toArray, List.set_cons_zero, List.set_cons_succ])))
      (refine' head_val ?dw137 ?de137 ?dr137 ?dh137; (case' dw137 => rfl); (case' de137 => (first | exact fun _ _ _ => trivial | (intro t ht w; cases ht; simp [upE]))); (case' dr137 => (intro w' hw' _; go_simp; with_reducible rfl)); (case' dh137 => (try simp only [Act.put, List.setIfInBounds_toArray, List.set_cons_zero, List.set_cons_succ]))); (refine' head_val ?dw138 ?de138 ?dr138 ?dh138; (case' dw138 => rfl); (case' de138 => (first | exact fun _ _ _ => trivial | (intro t ht w; cases ht; simp [upE]))); (case' dr138 => (intro w' hw' _; go_simp; with_reducible rfl)); (case' dh138 => (try simp only [Act.put, List.setIfInBounds_toArray, List.set_cons_zero, List.set_cons_succ]))); (refine' head_val ?dw139 ?de139 ?dr139 ?dh139; (case' dw139 => rfl); (case' de139 => (first | exact fun _ _ _ => trivial | (intro t ht w; cases ht; simp [upE]))); (case' dr139 => (intro w' hw' _; go_simp; with_reducible rfl)); (case' dh139 => (try simp only [Act.put, List.setIfInBounds_toArray, List.set_cons_zero, List.set_cons_succ]))); (refine' head_val ?dw140 ?de140 ?dr140 ?dh140; (case' dw140 => rfl); (case' de140 => (first | exact fun _ _ _ => trivial | (intro t ht w; cases ht; simp [upE]))); (case' dr140 => (intro w' hw' _; go_simp; with_reducible rfl)); (case' dh140 => (try simp only [Act.put, List.setIfInBounds_toArray, List.set_cons_zero, List.set_cons_succ]))); (refine' head_val ?dw141 ?de141 ?dr141 ?dh141; (case' dw141 => rfl); (case' de141 => (first | exact fun _ _ _ => trivial | (intro t ht w; cases ht; simp [upE]))); (case' dr141 => (intro w' hw' _; go_simp; with_reducible rfl)); (case' dh141 => (try simp only [Act.put, List.setIfInBounds_toArray, List.set_cons_zero, List.set_cons_succ]))); (refine' head_val ?dw142 ?de142 ?dr142 ?dh142; (case' dw142 => rfl); (case' de142 => (first | exact fun _ _ _ => trivial | (intro t ht w; cases ht; simp [upE]))); (case' dr142 => (intro w' hw' _; go_simp; with_reducible rfl)); (case' dh142 => (try simp only [Act.put, List.setIfInBounds_toArray, List.set_cons_zero, List.set_cons_succ]))); (refine' head_val ?dw143 ?de143 ?dr143 ?dh143; (case' dw143 => rfl); (case' de143 => (first | exact fun _ _ _ => trivial | (intro t ht w; cases ht; simp [upE]))); (case' dr143 => (intro w' hw' _; go_simp; with_reducible rfl)); (case' dh143 => (try simp only [Act.put, List.setIfInBounds_toArray, List.set_cons_zero, List.set_cons_succ])))
      (refine' head_call ?cw144 ?ce144 ?cr144 ?cc144 ?ch144; (case' cw144 => rfl); (case' ce144 => (first | exact fun _ _ _ => trivial | (intro t ht w; cases ht; simp [upE]))); (case' cr144 => (intro w'; go_simp; first | exact ⟨rfl, rfl⟩ | with_reducible rfl)); (case' cc144 => (intro w' hw' _; exact awake07 w')); (case' ch144 => (try simp only [Act.put, List.setIfInBounds_toArray, List.set_cons_zero, List.set_cons_succ])))
      (refine' head_val ?dw145 ?de145 ?dr145 ?dh145; (case' dw145 => rfl); (case' de145 => (first | exact fun _ _ _ => trivial | (intro t ht w; cases ht; simp [upE]))); (case' dr145 => (intro w' hw' _; go_simp; with_reducible rfl)); (case' dh145 => (try simp only [Act.put, List.setIfInBounds_toArray, List.set_cons_zero, List.set_cons_succ]))); (refine' head_val ?dw146 ?de146 ?dr146 ?dh146; (case' dw146 => rfl); (case' de146 => (first | exact fun _ _ _ => trivial | (intro t ht w; cases ht; simp [upE]))); (case' dr146 => (intro w' hw' _; go_simp; with_reducible rfl)); (case' dh146 => (try simp only [Act.put, List.setIfInBounds_toArray, List.set_cons_zero, List.set_cons_succ])))
      refine head_nil ?_
      intro w26 hb _
      replace HB := hid (Grow.trans HB.out hb)
      replace P := hid (grow_block P.out hb)
      replace X := hid (grow_block X.out hb)
      replace H8 := hid (grow_block H8.out hb)
      replace H10 := hid (grow_block H10.out hb)
      clear hb
      refine wpList_nil ?_
      clear hq1 hq2 hq3 hq4
      go_wp2_with fail
      go_ret
      exact ⟨rfl, HB.out⟩
theorem keytreeKeys (b h : Int) (seed : ByteArray) (hsz : seed.size ≤ 140737488351232) (root : IdK) (hroot : root.length = 32) (w : World) :
    Calls Try.prog 5 #[.agg #[.int .i64 b, .int .i64 h], .string seed, idV root] w fun e w' => e = .returned (.bool true) ∧ Below w.heap.size w w' := by
  cases hk : ktB b h with
  | false => exact keytreeKeys_bad b h seed hsz root hroot hk w
  | true => exact keytreeKeys_good b h seed hsz root hroot hk w
end Go.Proofs.Ytffgifegaagndaa
