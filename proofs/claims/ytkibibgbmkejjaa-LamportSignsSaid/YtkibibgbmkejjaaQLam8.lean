/- The law LamportSigns: what is signed is recovered; walk. -/
import Derived.Test.YtkibibgbmkejjaaQLam5
import Derived.Test.YtkibibgbmkejjaaQLam6
import Derived.Test.YtkibibgbmkejjaaQLam7
set_option linter.unusedSimpArgs false
set_option linter.unusedVariables false
namespace Go.Proofs.Ytkibibgbmkejjaa
open Go.RowKit
open Go.Qk hiding rotr b4
set_option maxHeartbeats 1000000
set_option maxRecDepth 100000
theorem bothRow_congr (g h : Nat → Nat → List UInt8) (n : Nat) (H : ∀ b, b < n → g b 0 = h b 0 ∧ g b 1 = h b 1) : bothRow g n = bothRow h n := by
  induction n with
  | zero => rfl
  | succ n ih => rw [bothRow_succ, bothRow_succ, ih (fun b hb => H b (by omega)), (H n (by omega)).1, (H n (by omega)).2]
theorem rowOf_getD (g : Nat → List UInt8) (n b : Nat) (h : b < n) : (rowOf g n).getD b [] = g b := by simp [rowOf, h]
theorem sign_pub (seed : ByteArray) (leaf : Int) (sum : List UInt8) (n b s : Nat) (hb : b < n) (hs : s ≤ 1) : pubG sum (rowOf (shownG seed leaf sum) n) (rowOf (hiddenG seed leaf sum) n) b s = leafPub seed leaf b s := by
  have hr := bitI_range sum b
  by_cases he : bitI sum b = (s : Int)
  · unfold pubG
    rw [if_pos he, rowOf_getD _ _ _ hb, shownG, he]
    rfl
  · rw [pubG_hid _ _ _ (rowOf_32 _ (hiddenG_length seed leaf sum) n) _ _ (by rw [rowOf_length]; exact hb) he, rowOf_getD _ _ _ hb, hiddenG, show 1 - bitI sum b = (s : Int) by omega]
    rfl
theorem sign_ok (seed : ByteArray) (leaf : Int) (sum : List UInt8) (n : Nat) (hr : rightB (n : Int) = true) : pubOk (rowOf (shownG seed leaf sum) n) (rowOf (hiddenG seed leaf sum) n) = true := by
  unfold pubOk
  rw [rowOf_length, rowOf_length, hr]
  simp
theorem sign_rec (seed : ByteArray) (leaf : Int) (sum : List UInt8) (n : Nat) (hr : rightB (n : Int) = true) : recRes sum (rowOf (shownG seed leaf sum) n) (rowOf (hiddenG seed leaf sum) n) = leafOf seed leaf n := by
  unfold recRes
  rw [if_pos (sign_ok seed leaf sum n hr), pubRow, rowOf_length, bothRow_congr _ (leafPub seed leaf) n (fun b hb => ⟨sign_pub seed leaf sum n b 0 hb (by omega), sign_pub seed leaf sum n b 1 hb (by omega)⟩)]
  rfl
theorem lamportSigns (seed : ByteArray) (hsz : seed.size ≤ 140737488351232) (leaf bits : Int) (hl : leaf ≤ 9223372036854775807) (sum : List UInt8) (hsum : sum.length = 32) (w : World) :
    Calls Try.prog 10 #[.string seed, .int .i64 leaf, .int .i64 bits, idV sum] w fun e w' => e = .returned (.bool true) ∧ Below w.heap.size w w' := by
  have HL := hid hl
  have HS := hid hsum
  clear hl hsum
  by_cases h2 : 200 < seed.size
  · have t1 : decide ((200 : Int) < (seed.size : Int)) = true := by simp; omega
    go_enter Try.func10, Try.ntmps10
    have HB := hid (grow_refl w)
    apply wp_seq_k; intro _ _; apply wp_region_lit
    refine op_box (l := sum) rfl rfl rfl ?_
    intro g7 w1 hgl hgu hb hr
    have XL := hid (Nat.le_trans HB.out.size hgl)
    replace HB := hid (Grow.trans HB.out hb)
    have X := hid hr; have XU := hid hgu
    clear hr hgl hgu hb
    try simp only [Act.put, List.setIfInBounds_toArray, List.set_cons_zero, List.set_cons_succ]
    go_wp2_with (first |  fail)
    refine (awake06 _).mono ?_
    rintro e w2 ⟨rfl, hb⟩
    replace HB := hid (Grow.trans HB.out hb)
    replace X := hid (grow_block X.out hb)
    clear hb
    go_wp2
    go_ret
    exact ⟨rfl, HB.out⟩
  · have t1 : decide ((200 : Int) < (seed.size : Int)) = false := by simp; omega
    have hs : seed.size ≤ 1000000 := by omega
    by_cases h32 : 32 < bits
    · have t2 : decide ((32 : Int) < bits) = true := by simp; omega
      by_cases hr : rightB bits = true
      · have HRR := hid hr
        clear hr
        go_enter Try.func10, Try.ntmps10
        have HB := hid (grow_refl w)
        apply wp_seq_k; intro _ _; apply wp_region_lit
        refine op_box (l := sum) rfl rfl rfl ?_
        intro g7 w3 hgl hgu hb hr
        have XL := hid (Nat.le_trans HB.out.size hgl)
        replace HB := hid (Grow.trans HB.out hb)
        have X := hid hr; have XU := hid hgu
        clear hr hgl hgu hb
        try simp only [Act.put, List.setIfInBounds_toArray, List.set_cons_zero, List.set_cons_succ]
        go_wp2_with (first |  fail)
        refine (refRight bits _).mono ?_
        rintro e w4 ⟨rfl, hb⟩
        replace HB := hid (Grow.trans HB.out hb)
        replace X := hid (grow_block X.out hb)
        clear hb
        rw [HRR.out]
        go_wp2_with (first |  fail)
        refine (awake06 _).mono ?_
        rintro e w5 ⟨rfl, hb⟩
        replace HB := hid (Grow.trans HB.out hb)
        replace X := hid (grow_block X.out hb)
        clear hb
        go_wp2
        go_ret
        exact ⟨rfl, HB.out⟩
      · have HRR := hid (show rightB bits = false by simpa using hr)
        have HBAD := hid (show rightB bits = false ∨ leaf < 0 from .inl HRR.out)
        clear hr
        go_enter Try.func10, Try.ntmps10
        have HB := hid (grow_refl w)
        apply wp_seq_k; intro _ _; apply wp_region_lit
        refine op_box (l := sum) rfl rfl rfl ?_
        intro g7 w6 hgl hgu hb hr
        have XL := hid (Nat.le_trans HB.out.size hgl)
        replace HB := hid (Grow.trans HB.out hb)
        have X := hid hr; have XU := hid hgu
        clear hr hgl hgu hb
        try simp only [Act.put, List.setIfInBounds_toArray, List.set_cons_zero, List.set_cons_succ]
        go_wp2_with (first | (refine op_loadId rfl rfl rfl X.out (HS.out) ?_) |  fail)
        refine (refRight bits _).mono ?_
        rintro e w7 ⟨rfl, hb⟩
        replace HB := hid (Grow.trans HB.out hb)
        replace X := hid (grow_block X.out hb)
        clear hb
        rw [HRR.out]
        go_wp2_with (first | (refine op_loadId rfl rfl rfl X.out (HS.out) ?_) |  fail)
        refine (lamSign_bad seed leaf bits sum HS.out HBAD.out _).mono ?_
        rintro e w8 ⟨rfl, hb⟩
        replace HB := hid (Grow.trans HB.out hb)
        replace X := hid (grow_block X.out hb)
        clear hb
        go_wp2_with (first | (refine op_loadId rfl rfl rfl X.out (HS.out) ?_) |  fail)
        refine (refRight bits _).mono ?_
        rintro e w9 ⟨rfl, hb⟩
        replace HB := hid (Grow.trans HB.out hb)
        replace X := hid (grow_block X.out hb)
        clear hb
        rw [HRR.out]
        go_wp2_with (first | (refine op_loadId rfl rfl rfl X.out (HS.out) ?_) |  fail)
        refine (awake06 _).mono ?_
        rintro e w10 ⟨rfl, hb⟩
        replace HB := hid (Grow.trans HB.out hb)
        replace X := hid (grow_block X.out hb)
        clear hb
        go_wp2
        go_ret
        exact ⟨rfl, HB.out⟩
    · have t2 : decide ((32 : Int) < bits) = false := by simp; omega
      by_cases hr : rightB bits = true
      · by_cases h0 : leaf < 0
        · have HRR := hid hr
          have HBAD := hid (show rightB bits = false ∨ leaf < 0 from .inr h0)
          have t3 : decide (leaf < 0) = true := by simpa using h0
          clear hr
          go_enter Try.func10, Try.ntmps10
          have HB := hid (grow_refl w)
          apply wp_seq_k; intro _ _; apply wp_region_lit
          refine op_box (l := sum) rfl rfl rfl ?_
          intro g7 w11 hgl hgu hb hr
          have XL := hid (Nat.le_trans HB.out.size hgl)
          replace HB := hid (Grow.trans HB.out hb)
          have X := hid hr; have XU := hid hgu
          clear hr hgl hgu hb
          try simp only [Act.put, List.setIfInBounds_toArray, List.set_cons_zero, List.set_cons_succ]
          go_wp2_with (first | (refine op_loadId rfl rfl rfl X.out (HS.out) ?_) |  fail)
          refine (lamSign_bad seed leaf bits sum HS.out HBAD.out _).mono ?_
          rintro e w12 ⟨rfl, hb⟩
          replace HB := hid (Grow.trans HB.out hb)
          replace X := hid (grow_block X.out hb)
          clear hb
          go_wp2_with (first | (refine op_loadId rfl rfl rfl X.out (HS.out) ?_) |  fail)
          refine (refRight bits _).mono ?_
          rintro e w13 ⟨rfl, hb⟩
          replace HB := hid (Grow.trans HB.out hb)
          replace X := hid (grow_block X.out hb)
          clear hb
          rw [HRR.out]
          go_wp2_with (first | (refine op_loadId rfl rfl rfl X.out (HS.out) ?_) |  fail)
          refine (awake06 _).mono ?_
          rintro e w14 ⟨rfl, hb⟩
          replace HB := hid (Grow.trans HB.out hb)
          replace X := hid (grow_block X.out hb)
          clear hb
          go_wp2
          go_ret
          exact ⟨rfl, HB.out⟩
        · have t3 : decide (leaf < 0) = false := by simpa using h0
          have h00 : 0 ≤ leaf := by omega
          have hb8 : 8 ≤ bits ∧ bits ≤ 256 := by simp [rightB] at hr; omega
          obtain ⟨n, rfl⟩ : ∃ n : Nat, bits = n := ⟨bits.toNat, by omega⟩
          have hn : n ≤ 256 := by omega
          have HR1 := hid (show leafRes seed leaf n = leafOf seed leaf n by unfold leafRes; rw [if_pos (by rw [hr]; simp; omega)]; rfl)
          have HR2 := hid (show leafErr leaf n = 0 by unfold leafErr; rw [if_pos (by rw [hr]; simp; omega)])
          have HREC := hid (sign_rec seed leaf sum n hr)
          have HPE := hid (show pubErr (rowOf (shownG seed leaf sum) n) (rowOf (hiddenG seed leaf sum) n) = 0 by unfold pubErr; rw [if_pos (sign_ok seed leaf sum n hr)])
          have R1 := hid (rowOf_32 _ (shownG_length seed leaf sum) n)
          have R2 := hid (rowOf_32 _ (hiddenG_length seed leaf sum) n)
          have H32 := hid (leafOf_length seed leaf n)
          have HRR := hid hr
          clear hr hb8
          go_enter Try.func10, Try.ntmps10
          have HB := hid (grow_refl w)
          apply wp_seq_k; intro _ _; apply wp_region_lit
          refine op_box (l := sum) rfl rfl rfl ?_
          intro g7 w15 hgl hgu hb hr
          have XL := hid (Nat.le_trans HB.out.size hgl)
          replace HB := hid (Grow.trans HB.out hb)
          have X := hid hr; have XU := hid hgu
          clear hr hgl hgu hb
          try simp only [Act.put, List.setIfInBounds_toArray, List.set_cons_zero, List.set_cons_succ]
          go_wp2_with (first | (refine op_loadId rfl rfl rfl X.out (HS.out) ?_) |  fail)
          refine (lamSign seed leaf n sum HS.out hs HL.out h00 HRR.out hn _).mono ?_
          rintro e w3 ⟨v, u, rfl, ho, hu, hb⟩
          replace HB := hid (Grow.trans HB.out hb)
          replace X := hid (grow_block X.out hb)
          clear hb
          obtain ⟨⟨A1, c1, rfl, hv1⟩, q1⟩ := ho.sl
          obtain ⟨⟨A2, c2, rfl, hv2⟩, q2⟩ := hu.sl
          have V1 := hid hv1
          have V2 := hid hv2
          clear ho hu hv1 hv2 q1 q2
          go_wp2_with (first | (refine op_loadId rfl rfl rfl X.out (HS.out) ?_) |  fail)
          refine (refRight n _).mono ?_
          rintro e w16 ⟨rfl, hb⟩
          replace HB := hid (Grow.trans HB.out hb)
          replace X := hid (grow_block X.out hb)
          replace V1 := hid (V1.out.grow hb)
          replace V2 := hid (V2.out.grow hb)
          clear hb
          rw [HRR.out]
          go_wp2_with (first | (refine op_loadId rfl rfl rfl X.out (HS.out) ?_) |  fail)
          refine (refSign seed leaf n sum HS.out hs hn _).mono ?_
          rintro e w5 ⟨v, u, rfl, ho, hu, hb⟩
          replace HB := hid (Grow.trans HB.out hb)
          replace X := hid (grow_block X.out hb)
          replace V1 := hid (V1.out.grow hb)
          replace V2 := hid (V2.out.grow hb)
          clear hb
          obtain ⟨⟨A3, c3, rfl, hv1⟩, q1⟩ := ho.sl
          obtain ⟨⟨A4, c4, rfl, hv2⟩, q2⟩ := hu.sl
          have V3 := hid hv1
          have V4 := hid hv2
          clear ho hu hv1 hv2 q1 q2
          go_wp2_with (first | (refine op_loadId rfl rfl rfl X.out (HS.out) ?_) |  fail)
          refine (lamRecover sum HS.out _ _ R1.out R2.out A1 A2 _ _ c1 c2 rfl rfl _ V1.out V2.out).mono ?_
          rintro e w17 ⟨rfl, hb⟩
          replace HB := hid (Grow.trans HB.out hb)
          replace X := hid (grow_block X.out hb)
          replace V1 := hid (V1.out.grow hb)
          replace V2 := hid (V2.out.grow hb)
          replace V3 := hid (V3.out.grow hb)
          replace V4 := hid (V4.out.grow hb)
          clear hb
          rw [HREC.out, HPE.out]
          go_wp2_with (first | (refine op_loadId rfl rfl rfl X.out (HS.out) ?_) |  (refine op_allocstore (l := leafOf seed leaf n) rfl rfl rfl rfl rfl rfl (fun _ => rfl) ⟨fun _ => rfl, H32.out⟩ ?_))
          intro g14 w18 hgl hgu hb hr
          have H14L := hid (Nat.le_trans HB.out.size hgl)
          replace HB := hid (Grow.trans HB.out hb)
          replace X := hid (grow_block X.out hb)
          replace V1 := hid (V1.out.grow hb)
          replace V2 := hid (V2.out.grow hb)
          replace V3 := hid (V3.out.grow hb)
          replace V4 := hid (V4.out.grow hb)
          have H14 := hid hr; have H14U := hid hgu
          clear hr hgl hgu hb
          try simp only [Act.put, List.setIfInBounds_toArray, List.set_cons_zero, List.set_cons_succ]
          go_wp2_with (first | (refine op_loadId rfl rfl rfl X.out (HS.out) ?_) | (refine op_loadId rfl rfl rfl H14.out (H32.out) ?_) |  fail)
          refine (lamLeaf seed leaf n hs HL.out _).mono ?_
          rintro e w19 ⟨rfl, hb⟩
          replace HB := hid (Grow.trans HB.out hb)
          replace X := hid (grow_block X.out hb)
          replace V1 := hid (V1.out.grow hb)
          replace V2 := hid (V2.out.grow hb)
          replace V3 := hid (V3.out.grow hb)
          replace V4 := hid (V4.out.grow hb)
          replace H14 := hid (grow_block H14.out hb)
          clear hb
          rw [HR1.out, HR2.out]
          go_wp2_with (first | (refine op_loadId rfl rfl rfl X.out (HS.out) ?_) | (refine op_loadId rfl rfl rfl H14.out (H32.out) ?_) |  (refine op_allocstore (l := leafOf seed leaf n) rfl rfl rfl rfl rfl rfl (fun _ => rfl) ⟨fun _ => rfl, H32.out⟩ ?_))
          intro g16 w20 hgl hgu hb hr
          have H16L := hid (Nat.le_trans HB.out.size hgl)
          replace HB := hid (Grow.trans HB.out hb)
          replace X := hid (grow_block X.out hb)
          replace V1 := hid (V1.out.grow hb)
          replace V2 := hid (V2.out.grow hb)
          replace V3 := hid (V3.out.grow hb)
          replace V4 := hid (V4.out.grow hb)
          replace H14 := hid (grow_block H14.out hb)
          have H16 := hid hr; have H16U := hid hgu
          clear hr hgl hgu hb
          try simp only [Act.put, List.setIfInBounds_toArray, List.set_cons_zero, List.set_cons_succ]
          go_wp2_with (first | (refine op_loadId rfl rfl rfl X.out (HS.out) ?_) | (refine op_loadId rfl rfl rfl H14.out (H32.out) ?_) | (refine op_loadId rfl rfl rfl H16.out (H32.out) ?_) |  fail)
          refine (refSame A1 A3 _ _ c1 c3 _ _ _ V1.out V3.out rfl rfl R1.out R1.out).mono ?_
          rintro e w21 ⟨rfl, hb⟩
          replace HB := hid (Grow.trans HB.out hb)
          replace X := hid (grow_block X.out hb)
          replace V1 := hid (V1.out.grow hb)
          replace V2 := hid (V2.out.grow hb)
          replace V3 := hid (V3.out.grow hb)
          replace V4 := hid (V4.out.grow hb)
          replace H14 := hid (grow_block H14.out hb)
          replace H16 := hid (grow_block H16.out hb)
          clear hb
          rw [beq_self_eq_true]
          go_wp2_with (first | (refine op_loadId rfl rfl rfl X.out (HS.out) ?_) | (refine op_loadId rfl rfl rfl H14.out (H32.out) ?_) | (refine op_loadId rfl rfl rfl H16.out (H32.out) ?_) |  fail)
          refine (refSame A2 A4 _ _ c2 c4 _ _ _ V2.out V4.out rfl rfl R2.out R2.out).mono ?_
          rintro e w22 ⟨rfl, hb⟩
          replace HB := hid (Grow.trans HB.out hb)
          replace X := hid (grow_block X.out hb)
          replace V1 := hid (V1.out.grow hb)
          replace V2 := hid (V2.out.grow hb)
          replace V3 := hid (V3.out.grow hb)
          replace V4 := hid (V4.out.grow hb)
          replace H14 := hid (grow_block H14.out hb)
          replace H16 := hid (grow_block H16.out hb)
          clear hb
          rw [beq_self_eq_true]
          have hq1 := id_eql_self (leafOf seed leaf n) (leafOf_length _ _ _)
          have hq2 := id_guard .eql (leafOf seed leaf n) (leafOf seed leaf n)
          go_wp2_with (first | (refine opG_loadId rfl rfl rfl H14.out H32.out ?_) | (refine opG_loadId rfl rfl rfl H16.out H32.out ?_))
          refine (awake06 _).mono ?_
          rintro e w23 ⟨rfl, hb⟩
          replace HB := hid (Grow.trans HB.out hb)
          replace X := hid (grow_block X.out hb)
          replace V1 := hid (V1.out.grow hb)
          replace V2 := hid (V2.out.grow hb)
          replace V3 := hid (V3.out.grow hb)
          replace V4 := hid (V4.out.grow hb)
          replace H14 := hid (grow_block H14.out hb)
          replace H16 := hid (grow_block H16.out hb)
          clear hb
          go_wp2
          go_ret
          exact ⟨rfl, HB.out⟩
      · have HRR := hid (show rightB bits = false by simpa using hr)
        have HBAD := hid (show rightB bits = false ∨ leaf < 0 from .inl HRR.out)
        clear hr
        go_enter Try.func10, Try.ntmps10
        have HB := hid (grow_refl w)
        apply wp_seq_k; intro _ _; apply wp_region_lit
        refine op_box (l := sum) rfl rfl rfl ?_
        intro g7 w24 hgl hgu hb hr
        have XL := hid (Nat.le_trans HB.out.size hgl)
        replace HB := hid (Grow.trans HB.out hb)
        have X := hid hr; have XU := hid hgu
        clear hr hgl hgu hb
        try simp only [Act.put, List.setIfInBounds_toArray, List.set_cons_zero, List.set_cons_succ]
        go_wp2_with (first | (refine op_loadId rfl rfl rfl X.out (HS.out) ?_) |  fail)
        refine (lamSign_bad seed leaf bits sum HS.out HBAD.out _).mono ?_
        rintro e w25 ⟨rfl, hb⟩
        replace HB := hid (Grow.trans HB.out hb)
        replace X := hid (grow_block X.out hb)
        clear hb
        go_wp2_with (first | (refine op_loadId rfl rfl rfl X.out (HS.out) ?_) |  fail)
        refine (refRight bits _).mono ?_
        rintro e w26 ⟨rfl, hb⟩
        replace HB := hid (Grow.trans HB.out hb)
        replace X := hid (grow_block X.out hb)
        clear hb
        rw [HRR.out]
        go_wp2_with (first | (refine op_loadId rfl rfl rfl X.out (HS.out) ?_) |  fail)
        refine (awake06 _).mono ?_
        rintro e w27 ⟨rfl, hb⟩
        replace HB := hid (Grow.trans HB.out hb)
        replace X := hid (grow_block X.out hb)
        clear hb
        go_wp2
        go_ret
        exact ⟨rfl, HB.out⟩
end Go.Proofs.Ytkibibgbmkejjaa
