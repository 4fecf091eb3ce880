import Derived.Test.YtfkfhhkggpfcgaaQTag
namespace Go.Proofs.Ytfkfhhkggpfcgaa
open Go.RowKit Go.Qk

set_option maxHeartbeats 400000
set_option maxRecDepth 100000
theorem awake03 (w : World) :
    Calls Try.prog 16 #[] w fun e w' => e = .returned (.bool true) ∧ Below w.heap.size w w' := by
  have hE : bs (textOf ⟨#[97]⟩ [⟨#[98, 99]⟩]) = ⟨#[1, 97, 0, 0, 0, 0, 0, 0, 0, 2, 98, 99]⟩ := by decide +kernel
  have HE := hid hE
  clear hE
  go_enter Try.func16, Try.ntmps16
  go_wp2_with fail
  refine (tagText ⟨#[97]⟩ _ _ _ [⟨#[98, 99]⟩] _ ⟨by decide, fun _ => ⟨_, rfl, fun i hi => ?hc⟩⟩ rfl (by decide) (by decide)).mono ?_
  case hc =>
    obtain rfl : i = 0 := by simp at hi; omega
    exact cell_of_row _ _ 0 _ _ _ (heap_alloc_new _ _)
  rintro e w' ⟨rfl, hb⟩
  rw [HE.out]
  have HB := hid (below_grow ((Below.refl w.heap.size w).alloc (Nat.le_refl _) _) (by simp) hb)
  clear hb
  go_wp2
  go_ret
  exact ⟨rfl, HB.out⟩

theorem long03 (A : Option Addr) (n c : Nat) (xs : List ByteArray) (w : World) (hx : StrRow w A xs) (hn : xs.length = n) (hsz : ∀ s ∈ xs, s.size ≤ 9223372036854775807) :
    Calls Try.prog 15 #[.slice A n c] w fun e w' => e = .returned (.bool (longB xs)) ∧ Below w.heap.size w w' := by
  subst hn
  have HX := hid hx
  have hxl := hx.1
  have HSZ := hid hsz
  clear hx hsz
  go_enter Try.func15, Try.ntmps15
  go_wp2
  go_loopg [7] (xs.length + 1) (fun n i wr => ∃ k : Nat, k ≤ xs.length ∧ n = xs.length - k + 1 ∧ i = .int .i64 k ∧ Hid ((xs.take k).any (fun s => decide (300 < s.size)) = false) ∧ Hid (Grow w wr))
  case atStart => exact ⟨0, by omega, by omega, rfl, rfl, Below.refl _ _⟩
  case round =>
    obtain ⟨k, hk, hn, rfl, hF, hB⟩ := hrel
    by_cases hlt : k < xs.length
    · have k0 : (0 : Int) ≤ (k : Int) := by omega
      have k1 : (k : Int) < (xs.length : Int) := by omega
      obtain ⟨ad, rfl, hc⟩ := HX.out.at_ k hlt
      have hc' : wr.cell? (ad.add k) = some (.string (xs.getD k ByteArray.empty)) := grow_cell hc hB.out
      clear hc
      have hg : xs.getD k ByteArray.empty ∈ xs := by simp [hlt]
      have hs1 := HSZ.out _ hg
      have HG := hid hg
      have ht : xs.take (k + 1) = xs.take k ++ [xs.getD k ByteArray.empty] := by rw [List.take_succ_eq_append_getElem hlt]; simp [hlt]
      have HT := hid ht
      clear hg ht
      generalize xs.getD k ByteArray.empty = s at *
      by_cases h3 : 300 < s.size
      · have h4 : decide ((300 : Int) < (s.size : Int)) = true := by simp; omega
        go_wp2
        go_ret
        refine ⟨ret_bool ?_, hB.out⟩
        unfold longB
        rw [List.any_eq_true.2 ⟨s, HG.out, by simpa using h3⟩, Bool.true_or]
      · have h4 : decide ((300 : Int) < (s.size : Int)) = false := by simp; omega
        go_wp2
        go_roundg (xs.length - (k + 1) + 1)
        case rel =>
          refine ⟨k + 1, by omega, rfl, by go_num, hid ?_, hB⟩
          rw [HT.out, List.any_append, hF.out]
          simp
          omega
        case measure => omega
    · go_wp2
      go_ret
      refine ⟨ret_bool ?_, hB.out⟩
      have h := hF.out
      rw [List.take_of_length_le (by omega)] at h
      unfold longB
      rw [h]
      simp
      omega

theorem tagApart (x y : ByteArray) (A B : Option Addr) (n c m d : Nat) (xs ys : List ByteArray) (w : World) (hx : StrRow w A xs) (hn : xs.length = n) (hy : StrRow w B ys) (hm : ys.length = m)
    (hsa : ∀ s ∈ xs, s.size ≤ 9223372036854775807) (hsb : ∀ s ∈ ys, s.size ≤ 9223372036854775807) (hxs : x.size ≤ 140737488355328) (hys : y.size ≤ 140737488355328) :
    Calls Try.prog 3 #[.string x, .string y, .slice A n c, .slice B m d] w fun e w' => e = .returned (.bool true) ∧ Below w.heap.size w w' := by
  subst hn hm
  have HX := hid hx
  have HY := hid hy
  have HSA := hid hsa
  have HSB := hid hsb
  have hxl := hx.1
  have hyl := hy.1
  clear hx hy hsa hsb
  have l1 : ∀ w', Grow w w' → Calls Try.prog 15 #[.slice A xs.length c] w' fun e w'' => e = .returned (.bool (longB xs)) ∧ Below w'.heap.size w' w'' := fun w' hw => long03 _ _ _ xs _ (HX.out.grow hw) rfl HSA.out
  have l2 : ∀ w', Grow w w' → Calls Try.prog 15 #[.slice B ys.length d] w' fun e w'' => e = .returned (.bool (longB ys)) ∧ Below w'.heap.size w' w'' := fun w' hw => long03 _ _ _ ys _ (HY.out.grow hw) rfl HSB.out
  have L1 := hid l1
  have L2 := hid l2
  clear l1 l2
  by_cases hA : longB xs = true
  · rw [hA] at L1
    have HA := hid hA
    clear hA
    go_enter Try.func3, Try.ntmps3
    go_wp2_with fail
    refine (L1.out _ (grow_refl _)).mono ?_
    rintro e w1 ⟨rfl, hb1⟩
    have HB1 := hid hb1
    clear hb1
    go_wp2_with fail
    refine (awake03 _).mono ?_
    rintro e w2 ⟨rfl, hb2⟩
    have HB2 := hid (Grow.trans HB1.out hb2)
    clear hb2
    go_wp2
    go_ret
    exact ⟨rfl, HB2.out⟩
  · have hA' : longB xs = false := by simpa using hA
    rw [hA'] at L1
    have HA := hid hA'
    clear hA hA'
    by_cases hA : longB ys = true
    · rw [hA] at L2
      clear hA
      go_enter Try.func3, Try.ntmps3
      go_wp2_with fail
      refine (L1.out _ (grow_refl _)).mono ?_
      rintro e w1 ⟨rfl, hb⟩
      have HB1 := hid (hb)
      clear hb
      go_wp2_with fail
      refine (L2.out _ HB1.out).mono ?_
      rintro e w2 ⟨rfl, hb⟩
      have HB2 := hid (Grow.trans HB1.out hb)
      clear hb
      go_wp2_with fail
      refine (awake03 _).mono ?_
      rintro e w3 ⟨rfl, hb⟩
      have HB3 := hid (Grow.trans HB2.out hb)
      clear hb
      go_wp2
      go_ret
      exact ⟨rfl, HB3.out⟩
    · have hA' : longB ys = false := by simpa using hA
      rw [hA'] at L2
      have HA2 := hid hA'
      clear hA hA'
      by_cases hA : 255 < x.size
      · have t1 : decide ((255 : Int) < (x.size : Int)) = true := by simp; omega
        go_enter Try.func3, Try.ntmps3
        go_wp2_with fail
        refine (L1.out _ (grow_refl _)).mono ?_
        rintro e w1 ⟨rfl, hb⟩
        have HB1 := hid (hb)
        clear hb
        go_wp2_with fail
        refine (L2.out _ HB1.out).mono ?_
        rintro e w2 ⟨rfl, hb⟩
        have HB2 := hid (Grow.trans HB1.out hb)
        clear hb
        go_wp2_with fail
        refine (awake03 _).mono ?_
        rintro e w3 ⟨rfl, hb⟩
        have HB3 := hid (Grow.trans HB2.out hb)
        clear hb
        go_wp2
        go_ret
        exact ⟨rfl, HB3.out⟩
      · have t1 : decide ((255 : Int) < (x.size : Int)) = false := by simp; omega
        by_cases hA : 255 < y.size
        · have t2 : decide ((255 : Int) < (y.size : Int)) = true := by simp; omega
          go_enter Try.func3, Try.ntmps3
          go_wp2_with fail
          refine (L1.out _ (grow_refl _)).mono ?_
          rintro e w1 ⟨rfl, hb⟩
          have HB1 := hid (hb)
          clear hb
          go_wp2_with fail
          refine (L2.out _ HB1.out).mono ?_
          rintro e w2 ⟨rfl, hb⟩
          have HB2 := hid (Grow.trans HB1.out hb)
          clear hb
          go_wp2_with fail
          refine (awake03 _).mono ?_
          rintro e w3 ⟨rfl, hb⟩
          have HB3 := hid (Grow.trans HB2.out hb)
          clear hb
          go_wp2
          go_ret
          exact ⟨rfl, HB3.out⟩
        · have t2 : decide ((255 : Int) < (y.size : Int)) = false := by simp; omega
          have hl1 := hid (textOf_small x xs HA.out (by omega))
          have hl2 := hid (textOf_small y ys HA2.out (by omega))
          have hx255 : x.size ≤ 255 := by omega
          have hy255 : y.size ≤ 255 := by omega
          have hinj := fun h => textOf_inj hx255 hy255 HSA.out HSB.out h
          have HINJ := hid hinj
          clear hinj
          by_cases hsame : x = y ∧ xs.length = ys.length
          · obtain ⟨rfl, hle⟩ := hsame
            have t3 : ((xs.length : Int) == (ys.length : Int)) = true := by simp; omega
            have HLE := hid hle
            clear hle
            go_enter Try.func3, Try.ntmps3
            go_wp2_with fail
            refine (L1.out _ (grow_refl _)).mono ?_
            rintro e w1 ⟨rfl, hb⟩
            have HB1 := hid (hb)
            clear hb
            go_wp2_with fail
            refine (L2.out _ HB1.out).mono ?_
            rintro e w2 ⟨rfl, hb⟩
            have HB2 := hid (Grow.trans HB1.out hb)
            clear hb
            go_wp2_with fail
            refine (tagText x A xs.length c xs w2 (HX.out.grow HB2.out) rfl hx255 hl1.out).mono ?_
            rintro e w3 ⟨rfl, hb⟩
            have HB3 := hid (Grow.trans HB2.out hb)
            clear hb
            go_wp2_with fail
            refine (tagText x B ys.length d ys w3 (HY.out.grow HB3.out) rfl hy255 hl2.out).mono ?_
            rintro e w4 ⟨rfl, hb⟩
            have HB4 := hid (Grow.trans HB3.out hb)
            clear hb
            generalize hS : bs (textOf x xs) = S at *
            generalize hT : bs (textOf x ys) = T at *
            have HS := hid hS
            have HT := hid hT
            clear hS hT
            go_wp2_with fail
            go_loopg [13, 14] (xs.length + 1) (fun n f i wr => ∃ k : Nat, k ≤ xs.length ∧ n = xs.length - k + 1 ∧ i = .int .i64 k ∧ f = .bool (sameTo k xs ys) ∧ Hid (Grow w wr))
            case atStart => exact ⟨0, by omega, by omega, rfl, rfl, HB4⟩
            case round =>
              obtain ⟨k, hk, hn, rfl, rfl, hB⟩ := hrel
              by_cases hf : sameTo k xs ys = true
              · by_cases hlt : k < xs.length
                · have k0 : (0 : Int) ≤ (k : Int) := by omega
                  have k1 : (k : Int) < (xs.length : Int) := by omega
                  have k2 : (k : Int) < (ys.length : Int) := by have := HLE.out; omega
                  have hlt2 : k < ys.length := by have := HLE.out; omega
                  obtain ⟨ad, rfl, hc⟩ := HX.out.at_ k hlt
                  obtain ⟨bd, rfl, hd⟩ := HY.out.at_ k hlt2
                  have c1 : ∀ w', Grow wr w' → w'.cell? (ad.add k) = some (.string (xs.getD k ByteArray.empty)) := fun w' hw' => grow_cell hc (Grow.trans hB.out hw')
                  have c2 : ∀ w', Grow wr w' → w'.cell? (bd.add k) = some (.string (ys.getD k ByteArray.empty)) := fun w' hw' => grow_cell hd (Grow.trans hB.out hw')
                  have hst := sameTo_step hf hlt hlt2
                  have HST := hid hst
                  clear hc hd hst
                  generalize xs.getD k ByteArray.empty = s at *
                  generalize ys.getD k ByteArray.empty = u at *
                  go_wp2
                  (refine' wp_region_head 10 0 [_, _, _, _, _, _, _, _, _, _] rfl (by kernel_rfl) (by kernel_rfl) ?h; case' h => simp only [List.take_succ_cons, List.take_zero, List.zip_cons_cons, List.zip_nil_right, List.drop_succ_cons, List.drop_zero, List.drop_nil])
                  (iterate 10 (refine' head_val ?_ ?_ ?_ ?_; rotate_left; (· rfl); (· exact fun _ _ _ => trivial); (· intro w' hw' _; go_simp; with_reducible rfl); simp only [Act.put, List.setIfInBounds_toArray, List.set_cons_zero, List.set_cons_succ]))
                  refine head_nil ?_
                  intro w5 hw5 _
                  refine wpList_nil ?_
                  have HW5 := hid (Grow.trans hB.out hw5)
                  clear c1 c2 hw5
                  go_wp2
                  go_roundg (xs.length - (k + 1) + 1)
                  case rel =>
                    refine ⟨k + 1, by omega, rfl, by go_num, ?_, HW5⟩
                    rw [HST.out]
                    by_cases he : s = u
                    · subst he; simp
                    · rw [decide_eq_false he, toList_beq_ne he]
                  case measure => omega
                · have he : xs = ys := sameTo_all hf (by omega) HLE.out
                  subst he
                  have hSS : S = T := by rw [← HS.out, ← HT.out]
                  subst hSS
                  go_wp2_with fail
                  refine (awake03 _).mono ?_
                  rintro e w6 ⟨rfl, hb⟩
                  have HB6 := hid (Grow.trans hB.out hb)
                  clear hb
                  go_wp2
                  go_ret
                  exact ⟨rfl, HB6.out⟩
              · have hf' : sameTo k xs ys = false := by simpa using hf
                have hSS : (S.toList == T.toList) = false := toList_beq_ne (fun h => sameTo_false hf' (HINJ.out (bs_inj (by rw [HS.out, HT.out, h]))).2)
                go_wp2_with fail
                refine (awake03 _).mono ?_
                rintro e w6 ⟨rfl, hb⟩
                have HB6 := hid (Grow.trans hB.out hb)
                clear hb
                go_wp2
                go_ret
                exact ⟨rfl, HB6.out⟩
          · have hST : ∀ S T, bs (textOf x xs) = S → bs (textOf y ys) = T → S ≠ T := fun S T h1 h2 h => hsame (by
              have := HINJ.out (bs_inj (by rw [h1, h2, h]))
              exact ⟨this.1, by rw [this.2]⟩)
            have HST := hid hST
            clear hST
            by_cases hxy : x = y
            · have t3 : ((xs.length : Int) == (ys.length : Int)) = false := beq_eq_false_iff_ne.2 (fun e => hsame ⟨hxy, by omega⟩)
              subst hxy
              clear hsame
              go_enter Try.func3, Try.ntmps3
              go_wp2_with fail
              refine (L1.out _ (grow_refl _)).mono ?_
              rintro e w1 ⟨rfl, hb⟩
              have HB1 := hid (hb)
              clear hb
              go_wp2_with fail
              refine (L2.out _ HB1.out).mono ?_
              rintro e w2 ⟨rfl, hb⟩
              have HB2 := hid (Grow.trans HB1.out hb)
              clear hb
              go_wp2_with fail
              refine (tagText x A xs.length c xs w2 (HX.out.grow HB2.out) rfl hx255 hl1.out).mono ?_
              rintro e w3 ⟨rfl, hb⟩
              have HB3 := hid (Grow.trans HB2.out hb)
              clear hb
              go_wp2_with fail
              refine (tagText x B ys.length d ys w3 (HY.out.grow HB3.out) rfl hy255 hl2.out).mono ?_
              rintro e w4 ⟨rfl, hb⟩
              have HB4 := hid (Grow.trans HB3.out hb)
              clear hb
              generalize hS : bs (textOf x xs) = S at *
              generalize hT : bs (textOf x ys) = T at *
              have HS := hid hS
              have HT := hid hT
              clear hS hT
              have hSS : (S.toList == T.toList) = false := toList_beq_ne (HST.out S T rfl rfl)
              go_wp2_with fail
              go_loopg [13, 14] 1 (fun n f i wr => f = .bool false ∧ i = .int .i64 0 ∧ n = 1 ∧ Hid (Grow w wr))
              case atStart => exact ⟨rfl, rfl, rfl, HB4⟩
              case round =>
                obtain ⟨rfl, rfl, rfl, hB⟩ := hrel
                go_wp2_with fail
                refine (awake03 _).mono ?_
                rintro e w6 ⟨rfl, hb⟩
                have HB6 := hid (Grow.trans hB.out hb)
                clear hb
                go_wp2
                go_ret
                exact ⟨rfl, HB6.out⟩
            · have t3 : ¬ x.toList = y.toList := toList_ne hxy
              clear hsame hxy
              go_enter Try.func3, Try.ntmps3
              go_wp2_with fail
              refine (L1.out _ (grow_refl _)).mono ?_
              rintro e w1 ⟨rfl, hb⟩
              have HB1 := hid (hb)
              clear hb
              go_wp2_with fail
              refine (L2.out _ HB1.out).mono ?_
              rintro e w2 ⟨rfl, hb⟩
              have HB2 := hid (Grow.trans HB1.out hb)
              clear hb
              go_wp2_with fail
              refine (tagText x A xs.length c xs w2 (HX.out.grow HB2.out) rfl hx255 hl1.out).mono ?_
              rintro e w3 ⟨rfl, hb⟩
              have HB3 := hid (Grow.trans HB2.out hb)
              clear hb
              go_wp2_with fail
              refine (tagText y B ys.length d ys w3 (HY.out.grow HB3.out) rfl hy255 hl2.out).mono ?_
              rintro e w4 ⟨rfl, hb⟩
              have HB4 := hid (Grow.trans HB3.out hb)
              clear hb
              generalize hS : bs (textOf x xs) = S at *
              generalize hT : bs (textOf y ys) = T at *
              have HS := hid hS
              have HT := hid hT
              clear hS hT
              have hSS : (S.toList == T.toList) = false := toList_beq_ne (HST.out S T rfl rfl)
              go_wp2_with fail
              go_loopg [13, 14] 1 (fun n f i wr => f = .bool false ∧ i = .int .i64 0 ∧ n = 1 ∧ Hid (Grow w wr))
              case atStart => exact ⟨rfl, rfl, rfl, HB4⟩
              case round =>
                obtain ⟨rfl, rfl, rfl, hB⟩ := hrel
                go_wp2_with fail
                refine (awake03 _).mono ?_
                rintro e w6 ⟨rfl, hb⟩
                have HB6 := hid (Grow.trans hB.out hb)
                clear hb
                go_wp2
                go_ret
                exact ⟨rfl, HB6.out⟩
end Go.Proofs.Ytfkfhhkggpfcgaa
