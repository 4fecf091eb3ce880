/- The law LamportLeaves: walk. -/
import Derived.Test.YtkibibgbmkejjaaQLam4
set_option linter.unusedSimpArgs false
set_option linter.unusedVariables false
namespace Go.Proofs.Ytkibibgbmkejjaa
open Go.RowKit
open Go.Qk hiding rotr b4
set_option maxHeartbeats 1000000
set_option maxRecDepth 100000
theorem lamportLeaves (seed : ByteArray) (hsz : seed.size ≤ 140737488351232) (leaf bits : Int) (hl : leaf ≤ 9223372036854775807) (w : World) :
    Calls Try.prog 8 #[.string seed, .int .i64 leaf, .int .i64 bits] w fun e w' => e = .returned (.bool true) ∧ Below w.heap.size w w' := by
  have HL := hid hl
  clear hl
  by_cases h2 : 200 < seed.size
  · have t1 : decide ((200 : Int) < (seed.size : Int)) = true := by simp; omega
    go_enter Try.func8, Try.ntmps8
    have HB := hid (grow_refl w)
    go_wp2_with fail
    refine (awake06 _).mono ?_
    rintro e w1 ⟨rfl, hb⟩
    replace HB := hid (Grow.trans HB.out hb)
    clear hb
    go_wp2
    go_ret
    exact ⟨rfl, HB.out⟩
  · have t1 : decide ((200 : Int) < (seed.size : Int)) = false := by simp; omega
    have hs : seed.size ≤ 1000000 := by omega
    by_cases h32 : 32 < bits
    · have t2 : decide ((32 : Int) < bits) = true := by simp; omega
      by_cases hr : rightB bits = true
      · have HRR := hid hr
        clear hr
        go_enter Try.func8, Try.ntmps8
        have HB := hid (grow_refl w)
        go_wp2_with fail
        refine (refRight bits _).mono ?_
        rintro e w2 ⟨rfl, hb⟩
        replace HB := hid (Grow.trans HB.out hb)
        clear hb
        rw [HRR.out]
        go_wp2_with fail
        refine (awake06 _).mono ?_
        rintro e w3 ⟨rfl, hb⟩
        replace HB := hid (Grow.trans HB.out hb)
        clear hb
        go_wp2
        go_ret
        exact ⟨rfl, HB.out⟩
      · have HRR := hid (show rightB bits = false by simpa using hr)
        have HR1 := hid (show leafRes seed leaf bits = zero8 32 by simp [leafRes, HRR.out])
        have HR2 := hid (show leafErr leaf bits = 1 by simp [leafErr, HRR.out])
        clear hr
        go_enter Try.func8, Try.ntmps8
        have HB := hid (grow_refl w)
        go_wp2_with fail
        refine (refRight bits _).mono ?_
        rintro e w4 ⟨rfl, hb⟩
        replace HB := hid (Grow.trans HB.out hb)
        clear hb
        rw [HRR.out]
        go_wp2_with fail
        refine (lamLeaf seed leaf bits hs HL.out _).mono ?_
        rintro e w5 ⟨rfl, hb⟩
        replace HB := hid (Grow.trans HB.out hb)
        clear hb
        rw [HR1.out, HR2.out]
        have hq1 := id_eql_self (zero8 32) rfl
        have hq2 := id_guard .eql (zero8 32) (zero8 32)
        go_wp2_with (first |  (refine op_allocstore (l := zero8 32) rfl rfl rfl rfl rfl rfl (fun _ => rfl) ⟨fun _ => rfl, rfl⟩ ?_))
        intro g7 w6 hgl hgu hb hr
        have H7L := hid (Nat.le_trans HB.out.size hgl)
        replace HB := hid (Grow.trans HB.out hb)
        have H7 := hid hr; have H7U := hid hgu
        clear hr hgl hgu hb
        try simp only [Act.put, List.setIfInBounds_toArray, List.set_cons_zero, List.set_cons_succ]
        go_wp2_with fail
        refine (refRight bits _).mono ?_
        rintro e w7 ⟨rfl, hb⟩
        replace HB := hid (Grow.trans HB.out hb)
        replace H7 := hid (grow_block H7.out hb)
        clear hb
        rw [HRR.out]
        go_wp2_with (first | (refine opG_loadId rfl rfl rfl H7.out rfl ?_) | (refine opG_buildId rfl rfl ?_))
        refine (awake06 _).mono ?_
        rintro e w8 ⟨rfl, hb⟩
        replace HB := hid (Grow.trans HB.out hb)
        replace H7 := hid (grow_block H7.out hb)
        clear hb
        go_wp2
        go_ret
        exact ⟨rfl, HB.out⟩
    · have t2 : decide ((32 : Int) < bits) = false := by simp; omega
      by_cases hr : rightB bits = true
      · by_cases h0 : leaf < 0
        · have HRR := hid hr
          have HR1 := hid (show leafRes seed leaf bits = zero8 32 by unfold leafRes; rw [if_neg]; simp; omega)
          have HR2 := hid (show leafErr leaf bits = 1 by unfold leafErr; rw [if_neg]; simp; omega)
          have t3 : decide (leaf < 0) = true := by simpa using h0
          clear hr
          go_enter Try.func8, Try.ntmps8
          have HB := hid (grow_refl w)
          go_wp2_with fail
          refine (lamLeaf seed leaf bits hs HL.out _).mono ?_
          rintro e w9 ⟨rfl, hb⟩
          replace HB := hid (Grow.trans HB.out hb)
          clear hb
          rw [HR1.out, HR2.out]
          have hq1 := id_eql_self (zero8 32) rfl
          have hq2 := id_guard .eql (zero8 32) (zero8 32)
          go_wp2_with (first |  (refine op_allocstore (l := zero8 32) rfl rfl rfl rfl rfl rfl (fun _ => rfl) ⟨fun _ => rfl, rfl⟩ ?_))
          intro g7 w10 hgl hgu hb hr
          have H7L := hid (Nat.le_trans HB.out.size hgl)
          replace HB := hid (Grow.trans HB.out hb)
          have H7 := hid hr; have H7U := hid hgu
          clear hr hgl hgu hb
          try simp only [Act.put, List.setIfInBounds_toArray, List.set_cons_zero, List.set_cons_succ]
          go_wp2_with fail
          refine (refRight bits _).mono ?_
          rintro e w11 ⟨rfl, hb⟩
          replace HB := hid (Grow.trans HB.out hb)
          replace H7 := hid (grow_block H7.out hb)
          clear hb
          rw [HRR.out]
          go_wp2_with (first | (refine opG_loadId rfl rfl rfl H7.out rfl ?_) | (refine opG_buildId rfl rfl ?_))
          refine (awake06 _).mono ?_
          rintro e w12 ⟨rfl, hb⟩
          replace HB := hid (Grow.trans HB.out hb)
          replace H7 := hid (grow_block H7.out hb)
          clear hb
          go_wp2
          go_ret
          exact ⟨rfl, HB.out⟩
        · have t3 : decide (leaf < 0) = false := by simpa using h0
          have hb8 : 8 ≤ bits ∧ bits ≤ 256 := by simp [rightB] at hr; omega
          obtain ⟨n, rfl⟩ : ∃ n : Nat, bits = n := ⟨bits.toNat, by omega⟩
          have hn : n ≤ 256 := by omega
          have HR1 := hid (show leafRes seed leaf n = leafOf seed leaf n by unfold leafRes; rw [if_pos (by rw [hr]; simp; omega)]; rfl)
          have HR2 := hid (show leafErr leaf n = 0 by unfold leafErr; rw [if_pos (by rw [hr]; simp; omega)])
          have HRR := hid hr
          clear hr hb8
          go_enter Try.func8, Try.ntmps8
          have HB := hid (grow_refl w)
          go_wp2_with fail
          refine (lamLeaf seed leaf n hs HL.out _).mono ?_
          rintro e w13 ⟨rfl, hb⟩
          replace HB := hid (Grow.trans HB.out hb)
          clear hb
          rw [HR1.out, HR2.out]
          have H32 := hid (leafOf_length seed leaf n)
          go_wp2_with (first |  (refine op_allocstore (l := leafOf seed leaf n) rfl rfl rfl rfl rfl rfl (fun _ => rfl) ⟨fun _ => rfl, H32.out⟩ ?_))
          intro g7 w14 hgl hgu hb hr
          have H7L := hid (Nat.le_trans HB.out.size hgl)
          replace HB := hid (Grow.trans HB.out hb)
          have H7 := hid hr; have H7U := hid hgu
          clear hr hgl hgu hb
          try simp only [Act.put, List.setIfInBounds_toArray, List.set_cons_zero, List.set_cons_succ]
          go_wp2_with fail
          refine (refRight n _).mono ?_
          rintro e w15 ⟨rfl, hb⟩
          replace HB := hid (Grow.trans HB.out hb)
          replace H7 := hid (grow_block H7.out hb)
          clear hb
          rw [HRR.out]
          go_wp2_with fail
          have hq1 := id_eql_self (leafOf seed leaf n) (leafOf_length _ _ _)
          have hq2 := id_guard .eql (leafOf seed leaf n) (leafOf seed leaf n)
          (refine' wp_region_head 14 0 [_, _, _, _, _, _, _, _, _, _, _, _, _, _] rfl (by kernel_rfl) (by kernel_rfl) ?hreg1; case' hreg1 => simp only [List.take_succ_cons, List.take_zero, List.zip_cons_cons, List.zip_nil_right, List.drop_succ_cons, List.drop_zero, List.drop_nil])
          (refine' head_loadId (x := _) rfl ?_ rfl rfl H7.out (H32.out) ?_; (first | exact fun _ _ _ => trivial | (intro t ht w; cases ht; simp [upE])); try simp only [Act.put, List.setIfInBounds_toArray, List.set_cons_zero, List.set_cons_succ])
          (refine' head_val ?dw2 ?de2 ?dr2 ?dh2; (case' dw2 => rfl); (case' de2 => (first | exact fun _ _ _ => trivial | (intro t ht w; cases ht; simp [upE]))); (case' dr2 => (intro w' hw' _; go_simp; with_reducible rfl)); (case' dh2 => (try simp only [Act.put, List.setIfInBounds_toArray, List.set_cons_zero, List.set_cons_succ]))); (refine' head_val ?dw3 ?de3 ?dr3 ?dh3; (case' dw3 => rfl); (case' de3 => (first | exact fun _ _ _ => trivial | (intro t ht w; cases ht; simp [upE]))); (case' dr3 => (intro w' hw' _; go_simp; with_reducible rfl)); (case' dh3 => (try simp only [Act.put, List.setIfInBounds_toArray, List.set_cons_zero, List.set_cons_succ]))); (refine' head_val ?dw4 ?de4 ?dr4 ?dh4; (case' dw4 => rfl); (case' de4 => (first | exact fun _ _ _ => trivial | (intro t ht w; cases ht; simp [upE]))); (case' dr4 => (intro w' hw' _; go_simp; with_reducible rfl)); (case' dh4 => (try simp only [Act.put, List.setIfInBounds_toArray, List.set_cons_zero, List.set_cons_succ])))
          (refine' head_call ?cw5 ?ce5 ?cr5 ?cc5 ?ch5; (case' cw5 => rfl); (case' ce5 => (first | exact fun _ _ _ => trivial | (intro t ht w; cases ht; simp [upE]))); (case' cr5 => (intro w'; go_simp; first | exact ⟨rfl, rfl⟩ | with_reducible rfl)); (case' cc5 => (intro w' hw' _; exact refLeaf seed leaf n hs (by omega) w')); (case' ch5 => (try simp only [Act.put, List.setIfInBounds_toArray, List.set_cons_zero, List.set_cons_succ])))
          (refine' head_val ?dw6 ?de6 ?dr6 ?dh6; (case' dw6 => rfl); (case' de6 => (first | exact fun _ _ _ => trivial | (intro t ht w; cases ht; simp [upE]))); (case' dr6 => (intro w' hw' _; go_simp; with_reducible rfl)); (case' dh6 => (try simp only [Act.put, List.setIfInBounds_toArray, List.set_cons_zero, List.set_cons_succ]))); (refine' head_val ?dw7 ?de7 ?dr7 ?dh7; (case' dw7 => rfl); (case' de7 => (first | exact fun _ _ _ => trivial | (intro t ht w; cases ht; simp [upE]))); (case' dr7 => (intro w' hw' _; go_simp; with_reducible rfl)); (case' dh7 => (try simp only [Act.put, List.setIfInBounds_toArray, List.set_cons_zero, List.set_cons_succ]))); (refine' head_val ?dw8 ?de8 ?dr8 ?dh8; (case' dw8 => rfl); (case' de8 => (first | exact fun _ _ _ => trivial | (intro t ht w; cases ht; simp [upE]))); (case' dr8 => (intro w' hw' _; go_simp; with_reducible rfl)); (case' dh8 => (try simp only [Act.put, List.setIfInBounds_toArray, List.set_cons_zero, List.set_cons_succ]))); (refine' head_val ?dw9 ?de9 ?dr9 ?dh9; (case' dw9 => rfl); (case' de9 => (first | exact fun _ _ _ => trivial | (intro t ht w; cases ht; simp [upE]))); (case' dr9 => (intro w' hw' _; go_simp; with_reducible rfl)); (case' dh9 => (try simp only [Act.put, List.setIfInBounds_toArray, List.set_cons_zero, List.set_cons_succ]))); (refine' head_val ?dw10 ?de10 ?dr10 ?dh10; (case' dw10 => rfl); (case' de10 => (first | exact fun _ _ _ => trivial | (intro t ht w; cases ht; simp [upE]))); (case' dr10 => (intro w' hw' _; go_simp; with_reducible rfl)); (case' dh10 => (try simp only [Act.put, List.setIfInBounds_toArray, List.set_cons_zero, List.set_cons_succ]))); (refine' head_val ?dw11 ?de11 ?dr11 ?dh11; (case' dw11 => rfl); (case' de11 => (first | exact fun _ _ _ => trivial | (intro t ht w; cases ht; simp [upE]))); (case' dr11 => (intro w' hw' _; go_simp; with_reducible rfl)); (case' dh11 => (try simp only [Act.put, List.setIfInBounds_toArray, List.set_cons_zero, List.set_cons_succ])))
          (refine' head_call ?cw12 ?ce12 ?cr12 ?cc12 ?ch12; (case' cw12 => rfl); (case' ce12 => (first | exact fun _ _ _ => trivial | (intro t ht w; cases ht; simp [upE]))); (case' cr12 => (intro w'; go_simp; first | exact ⟨rfl, rfl⟩ | with_reducible rfl)); (case' cc12 => (intro w' hw' _; exact awake06 w')); (case' ch12 => (try simp only [Act.put, List.setIfInBounds_toArray, List.set_cons_zero, List.set_cons_succ])))
          (refine' head_val ?dw13 ?de13 ?dr13 ?dh13; (case' dw13 => rfl); (case' de13 => (first | exact fun _ _ _ => trivial | (intro t ht w; cases ht; simp [upE]))); (case' dr13 => (intro w' hw' _; go_simp; with_reducible rfl)); (case' dh13 => (try simp only [Act.put, List.setIfInBounds_toArray, List.set_cons_zero, List.set_cons_succ]))); (refine' head_val ?dw14 ?de14 ?dr14 ?dh14; (case' dw14 => rfl); (case' de14 => (first | exact fun _ _ _ => trivial | (intro t ht w; cases ht; simp [upE]))); (case' dr14 => (intro w' hw' _; go_simp; with_reducible rfl)); (case' dh14 => (try simp only [Act.put, List.setIfInBounds_toArray, List.set_cons_zero, List.set_cons_succ])))
          refine head_nil ?_
          intro w16 hb _
          replace HB := hid (Grow.trans HB.out hb)
          replace H7 := hid (grow_block H7.out hb)
          clear hb
          refine wpList_nil ?_
          clear hq1 hq2
          go_wp2
          go_ret
          exact ⟨rfl, HB.out⟩
      · have HRR := hid (show rightB bits = false by simpa using hr)
        have HR1 := hid (show leafRes seed leaf bits = zero8 32 by simp [leafRes, HRR.out])
        have HR2 := hid (show leafErr leaf bits = 1 by simp [leafErr, HRR.out])
        clear hr
        go_enter Try.func8, Try.ntmps8
        have HB := hid (grow_refl w)
        go_wp2_with fail
        refine (lamLeaf seed leaf bits hs HL.out _).mono ?_
        rintro e w17 ⟨rfl, hb⟩
        replace HB := hid (Grow.trans HB.out hb)
        clear hb
        rw [HR1.out, HR2.out]
        have hq1 := id_eql_self (zero8 32) rfl
        have hq2 := id_guard .eql (zero8 32) (zero8 32)
        go_wp2_with (first |  (refine op_allocstore (l := zero8 32) rfl rfl rfl rfl rfl rfl (fun _ => rfl) ⟨fun _ => rfl, rfl⟩ ?_))
        intro g7 w18 hgl hgu hb hr
        have H7L := hid (Nat.le_trans HB.out.size hgl)
        replace HB := hid (Grow.trans HB.out hb)
        have H7 := hid hr; have H7U := hid hgu
        clear hr hgl hgu hb
        try simp only [Act.put, List.setIfInBounds_toArray, List.set_cons_zero, List.set_cons_succ]
        go_wp2_with fail
        refine (refRight bits _).mono ?_
        rintro e w19 ⟨rfl, hb⟩
        replace HB := hid (Grow.trans HB.out hb)
        replace H7 := hid (grow_block H7.out hb)
        clear hb
        rw [HRR.out]
        go_wp2_with (first | (refine opG_loadId rfl rfl rfl H7.out rfl ?_) | (refine opG_buildId rfl rfl ?_))
        refine (awake06 _).mono ?_
        rintro e w20 ⟨rfl, hb⟩
        replace HB := hid (Grow.trans HB.out hb)
        replace H7 := hid (grow_block H7.out hb)
        clear hb
        go_wp2
        go_ret
        exact ⟨rfl, HB.out⟩
end Go.Proofs.Ytkibibgbmkejjaa
