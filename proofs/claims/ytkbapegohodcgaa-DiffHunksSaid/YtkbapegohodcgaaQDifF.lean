/- diff.Of: walk. -/
import Derived.Test.YtkbapegohodcgaaQDifE
import Derived.Deep.LoopGhost
set_option linter.unusedSimpArgs false
set_option linter.unusedVariables false
namespace Go
section
variable {P : Program} {a : Act} {w : World} {Q : Exit → Act → World → Prop}
/-- A loop by a number that falls; what holds of the whole frame is told by J. -/
theorem wp_loop_gh {c : Code} (J : Nat → Act → World → Prop) (n₀ : Nat) (h₀ : J n₀ a w) (round : ∀ g a w, J g a w → ∀ K : Act → World → Prop, (∀ a' w' g', g' < g → J g' a' w' → K a' w') → c.wp P (Exit.then K Q) a w) : (Code.loop c).wp P Q a w := by
  have least : ∀ a w, (∃ n, J n a w) → ∃ n, J n a w ∧ ∀ m, J m a w → n ≤ m := fun a w h => exists_least h
  refine wp_loop (fun a w => ∃ n, J n a w) (fun a w => open Classical in if h : ∃ n, J n a w then Classical.choose (least a w h) else 0) ⟨n₀, h₀⟩ ?_
  intro a w hex
  have hc := Classical.choose_spec (least a w hex)
  refine round _ a w hc.1 _ (fun a' w' g' hlt hJ => ⟨⟨g', hJ⟩, ?_⟩)
  have hex' : ∃ n, J n a' w' := ⟨g', hJ⟩
  have hc' := Classical.choose_spec (least a' w' hex')
  rw [dif_pos hex, dif_pos hex']
  exact Nat.lt_of_le_of_lt (hc'.2 g' hJ) hlt
/-- What stands between two parts of a code. -/
theorem wp_cutJ {c : Code} {K : Act → World → Prop} (J : Act → World → Prop) (h1 : c.wp P (Exit.then J (fun _ _ _ => False)) a w) (h2 : ∀ a' w', J a' w' → K a' w') : c.wp P (Exit.then K Q) a w :=
  Code.wp_mono (fun e a' w' h => by
    cases e with
    | normal => exact h2 _ _ h
    | _ => exact h.elim) h1
end
end Go
namespace Go.Proofs.Ytkbapegohodcgaa
open Go.RowKit
open Go.Qk hiding rotr b4
set_option maxHeartbeats 8000000
set_option maxRecDepth 100000
theorem diffOf (A B : Option Addr) (n m c d : Nat) (xs ys : List ByteArray) (w : World) (hx : StrRow w A xs) (hy : StrRow w B ys) (hn : xs.length = n) (hm : ys.length = m) (hsa : ∀ s ∈ xs, s.size ≤ 9223372036854775807) (hsb : ∀ s ∈ ys, s.size ≤ 9223372036854775807) (hl : (linesB xs && linesB ys) = true) :
    Calls Try.prog 51 #[.slice A n c, .slice B m d] w fun e w' => ∃ ov hv, e = .returned (.tuple #[ov, .int .i64 0]) ∧ HkS w' w.heap.size ov hv (Dif.diffL ByteArray.empty xs ys) ∧ Below w.heap.size w w' := by
  have HC := hid (diffRight A B n m c d xs ys w hx hy hn hm hsa hsb)
  have HL := hid hl
  have hl2 : linesB xs = true ∧ linesB ys = true := by simpa using hl
  have h1 : n ≤ 1000 := by have := linesB_len hl2.1; omega
  have h2 : m ≤ 1000 := by have := linesB_len hl2.2; omega
  have HD := hid (fun w1 (h : Grow w w1) => tabMake A B n m c d xs ys w1 (hx.grow h) (hy.grow h) hn hm h1 h2)
  have HX := hid hx
  have HY := hid hy
  have HN := hid hn
  have HM := hid hm
  clear hx hy hn hm hsa hsb hl hl2
  go_enter Try.func51, Try.ntmps51
  have HB := hid (grow_refl w)
  go_wp2_with fail
  go_step3
  go_wp2_with fail
  refine HC.out.mono ?_
  rintro _ w1 ⟨rfl, hb⟩
  have HB1 := hid hb
  clear hb
  rw [HL.out]
  go_wp2_with fail
  refine (HD.out _ HB1.out).mono ?_
  rintro _ w2 ⟨o, r, rfl, ht, ho, hb⟩
  have HT := hid ht
  have HOL := hid (Nat.le_trans HB1.out.size ho)
  have HB2 := hid (Grow.trans HB1.out hb)
  clear hb ht ho HC HD HL HB1 HB
  go_wp2_with fail
  have hst := dofStart (B := w.heap.size) (show TabAt w2 o r (xs.length + 1) (ys.length + 1) (Dif.kAt xs ys) by rw [HN.out, HM.out]; exact HT.out) HB2.out.size
  generalize ((w2.alloc (.cells #[.slice none 0 0] 65)).alloc (.cells #[.bool false] 4)).alloc (.cells #[.int .i64 0] 3) = w3 at *
  generalize w2.heap.size + 1 + 1 = g10 at *
  generalize w2.heap.size + 1 = g8 at *
  generalize w2.heap.size = g7 at *
  obtain ⟨hs3, hc3, hb3⟩ := hst
  have HS3 := hid hs3
  have HC3 := hid hc3
  have HB3 := hid (Grow.trans HB2.out hb3)
  clear hs3 hc3 hb3 HB2 HT HOL
  go_step3
  go_wp2_with fail
  obtain ⟨J, hJ⟩ : ∃ J : Nat → Act → World → Prop, J = fun z a' wr => ∃ (k : Nat) (ov : Value) (hv : List HkO), a'.defers = [] ∧ a'.tmps.size = 143 ∧ a'.tmps.getD 0 undef = .slice A n c ∧ a'.tmps.getD 1 undef = .slice B m d ∧ a'.tmps.getD 6 undef = .slice (some ⟨o, 0, none⟩) (n + 1) (n + 1) ∧ a'.tmps.getD 7 undef = .pointer (some ⟨g7, 0, none⟩) ∧ a'.tmps.getD 8 undef = .pointer (some ⟨g8, 0, none⟩) ∧ a'.tmps.getD 10 undef = .pointer (some ⟨g10, 0, none⟩) ∧ a'.tmps.getD 11 undef = .func (Fn.func 97) #[] #[.pointer (some ⟨g8, 0, none⟩), .pointer (some ⟨g7, 0, none⟩), .pointer (some ⟨g10, 0, none⟩)] ∧ a'.tmps.getD 9 undef = .int .i64 ((Dif.stD ByteArray.empty xs ys k).i : Int) ∧ z + ((Dif.stD ByteArray.empty xs ys k).i + (Dif.stD ByteArray.empty xs ys k).j) = n + m ∧ Hid (HkS wr w.heap.size ov hv (Dif.stD ByteArray.empty xs ys k).out) ∧ Hid (DofC wr w.heap.size g8 g7 g10 o r xs ys ov (Dif.stD ByteArray.empty xs ys k).now.isSome (Dif.stD ByteArray.empty xs ys k).j) ∧ Hid (Below w.heap.size w wr) := ⟨_, rfl⟩
  refine wp_loop_gh J (n + m) ?start ?round
  case start =>
    rw [hJ]
    exact ⟨0, _, _, rfl, rfl, rfl, rfl, rfl, rfl, rfl, rfl, rfl, rfl, rfl, HS3, HC3, HB3⟩
  case round =>
    clear HS3 HC3 HB3
    rintro gk ⟨T, D⟩ wr hj K hK
    have hj2 := hj
    rw [hJ] at hj2
    clear hj
    obtain ⟨k, ov, hv, hD, hT, e0, e1, e6, e7, e8, e10, e11, e9, hz, HS, HC, HW⟩ := hj2
    obtain ⟨s, hs⟩ : ∃ s, Dif.stD ByteArray.empty xs ys k = s := ⟨_, rfl⟩
    have HST := hid (show Dif.stD ByteArray.empty xs ys (k + 1) = Dif.stepD ByteArray.empty xs ys s by rw [← hs]; rfl)
    have HSK := hid hs
    obtain ⟨b1, b2, b3, b4, b5⟩ := stD_bounds xs ys k s hs
    rw [hs] at e9 hz HS HC
    clear hs
    obtain ⟨i, j, fin, now⟩ := s
    dsimp only at b1 b2 b3 b4 b5 e9 hz HS HC
    have HBD := hid (show (Dif.DSt.out ⟨i, j, fin, now⟩).length ≤ 100000 ∧ (Dif.DSt.hk ⟨i, j, fin, now⟩).old.length ≤ 100000 ∧ (Dif.DSt.hk ⟨i, j, fin, now⟩).new.length ≤ 100000 by rw [HN.out] at b1; rw [HM.out] at b2; omega)
    rw [HN.out] at b1
    rw [HM.out] at b2
    clear b3 b4 b5
    have HZ := hid hz
    clear hz
    have i0 : (0 : Int) ≤ (i : Int) := by omega
    have j0 : (0 : Int) ≤ (j : Int) := by omega
    have HH1 := hid h1
    have HH2 := hid h2
    have hi9 : (i : Int) ≤ 1000 := by omega
    have hj9 : (j : Int) ≤ 1000 := by omega
    clear h1 h2
    have hc10 : wr.cell? ⟨g10, 0, none⟩ = some (.int .i64 (j : Int)) := blk_cell HC.out.c10 rfl
    by_cases hdn : i = n ∧ j = m
    · simp only at hD hT e0 e1 e6 e7 e8 e9 e10 e11
      subst hD
      obtain ⟨U, hU, hUk⟩ := frame143 T hT
      rw [hUk] at e0 e1 e6 e7 e8 e9 e10 e11
      rw [e0, e1, e6, e7, e8, e9, e10, e11] at hU
      subst hU
      clear hT e0 e1 e6 e7 e8 e9 e10 e11 hUk
      obtain ⟨rfl, rfl⟩ := hdn
      have HDN := hid (show Dif.doneD xs ys (Dif.stD ByteArray.empty xs ys k) = true by rw [HSK.out]; simp [Dif.doneD, HN.out, HM.out])
      have HRS := hid (show (Dif.DSt.out ⟨i, j, fin, now⟩) = Dif.diffL ByteArray.empty xs ys by rw [← Dif.diffL_of ByteArray.empty xs ys HDN.out, HSK.out])
      have hc7 : wr.cell? ⟨g7, 0, none⟩ = some ov := blk_cell HC.out.c7 rfl
      clear hK hJ
      go_wp2_with fail
      try rw [Exit.noGoto_ret]
      go_ret2
      exact ⟨ov, hv, rfl, by rw [← HRS.out]; exact HS.out, HW.out⟩
    · have HND := hid hdn
      clear hdn
      obtain ⟨F, hF⟩ : ∃ F : Act → Prop, F = fun a' => a'.defers = [] ∧ a'.tmps.size = 143 ∧ a'.tmps.getD 0 undef = .slice A n c ∧ a'.tmps.getD 1 undef = .slice B m d ∧ a'.tmps.getD 6 undef = .slice (some ⟨o, 0, none⟩) (n + 1) (n + 1) ∧ a'.tmps.getD 7 undef = .pointer (some ⟨g7, 0, none⟩) ∧ a'.tmps.getD 8 undef = .pointer (some ⟨g8, 0, none⟩) ∧ a'.tmps.getD 10 undef = .pointer (some ⟨g10, 0, none⟩) ∧ a'.tmps.getD 11 undef = .func (Fn.func 97) #[] #[.pointer (some ⟨g8, 0, none⟩), .pointer (some ⟨g7, 0, none⟩), .pointer (some ⟨g10, 0, none⟩)] ∧ a'.tmps.getD 9 undef = .int .i64 (i : Int) := ⟨_, rfl⟩
      apply wp_seq_k
      intro K1 hK1
      refine wp_cutJ (fun a' w' => F a' ∧ w' = wr) ?a1 ?a2
      case a1 =>
        simp only at hD hT e0 e1 e6 e7 e8 e9 e10 e11
        subst hD
        obtain ⟨U, hU, hUk⟩ := frame143 T hT
        rw [hUk] at e0 e1 e6 e7 e8 e9 e10 e11
        rw [e0, e1, e6, e7, e8, e9, e10, e11] at hU
        subst hU
        clear hT e0 e1 e6 e7 e8 e9 e10 e11 hUk
        have HND2 := HND
        by_cases hin : i < n
        · have hlt : (i : Int) < (n : Int) := by omega
          go_wp2_with fail
          refine ⟨?_, trivial⟩
          rw [hF]
          exact ⟨rfl, rfl, rfl, rfl, rfl, rfl, rfl, rfl, rfl, rfl⟩
        · obtain rfl : i = n := by omega
          have hlt : (j : Int) < (m : Int) := by have := HND.out; omega
          go_wp2_with fail
      case a2 =>
        clear hT e0 e1 e6 e7 e8 e10 e11 e9 hD
        rintro ⟨T, D⟩ wr2 ⟨hf, rfl⟩
        rw [hF] at hf
        obtain ⟨hD, hT, e0, e1, e6, e7, e8, e10, e11, e9⟩ := hf
        simp only at hD hT e0 e1 e6 e7 e8 e9 e10 e11
        subst hD
        obtain ⟨U, hU, hUk⟩ := frame143 T hT
        rw [hUk] at e0 e1 e6 e7 e8 e9 e10 e11
        rw [e0, e1, e6, e7, e8, e9, e10, e11] at hU
        subst hU
        clear hT e0 e1 e6 e7 e8 e9 e10 e11 hUk
        refine into_K (by assumption) ?_
        clear hK1
        go_wp2_with fail
        --REG12
        have HTB := hid (show TabAt wr2 o r (n + 1) (m + 1) (Dif.kAt xs ys) by have := HC.out.tab; rwa [HN.out, HM.out] at this)
        have HG := hid (grow_refl wr2)
        refine wp_cutJ (fun a' w' => (F a' ∧ a'.tmps.getD 49 undef = .bool (Dif.keepD ByteArray.empty xs ys i j)) ∧ Grow wr2 w') ?r12 ?rest
        case r12 =>
          clear HS hc10 HST HSK HZ hK
          by_cases hin : i < n
          · have hlt : (i : Int) < (n : Int) := by omega
            by_cases hjm : j < m
            · have hlt2 : (j : Int) < (m : Int) := by omega
              obtain ⟨ad, rfl, hc1⟩ := (HX.out.grow HW.out).at_ i (by rw [HN.out]; exact hin)
              obtain ⟨bd, rfl, hc2⟩ := (HY.out.grow HW.out).at_ j (by rw [HM.out]; exact hjm)
              have HKP0 := hid (show Dif.keepD ByteArray.empty xs ys i j = decide (xs.getD i ByteArray.empty = ys.getD j ByteArray.empty ∧ Dif.kAt xs ys i j = Dif.kAt xs ys (i + 1) (j + 1) + 1) by unfold Dif.keepD; rw [HN.out, HM.out]; simp [hin, hjm])
              have HXC := hid hc1
              have HYC := hid hc2
              clear hc1 hc2
              generalize xs.getD i ByteArray.empty = x at *
              generalize ys.getD j ByteArray.empty = y at *
              have hk1 : Dif.kAt xs ys i j ≤ 1000 := Nat.le_trans (kAt_le xs ys i j) (by rw [HN.out]; exact HH1.out)
              have hk2 : Dif.kAt xs ys (i + 1) (j + 1) ≤ 1000 := Nat.le_trans (kAt_le xs ys (i + 1) (j + 1)) (by rw [HN.out]; exact HH1.out)
              have HKB := hid hk2
              have wa : IntKind.i64.wrap ((i : Int) + 1) = (i : Int) + 1 := by simp [IntKind.wrap, IntKind.signed, IntKind.bits]; omega
              have wb : IntKind.i64.wrap ((j : Int) + 1) = (j : Int) + 1 := by simp [IntKind.wrap, IntKind.signed, IntKind.bits]; omega
              have wk : IntKind.i64.wrap ((Dif.kAt xs ys (i + 1) (j + 1) : Int) + 1) = (Dif.kAt xs ys (i + 1) (j + 1) : Int) + 1 := by simp [IntKind.wrap, IntKind.signed, IntKind.bits]; omega
              have ta : ((i : Int) + 1).toNat = i + 1 := by omega
              have tb : ((j : Int) + 1).toNat = j + 1 := by omega
              have a2 : (i : Int) < (n : Int) + 1 := by omega
              have a3 : (i : Int) + 1 < (n : Int) + 1 := by omega
              have a4 : (0 : Int) ≤ (i : Int) + 1 := by omega
              have c2 : (j : Int) < (m : Int) + 1 := by omega
              have c3 : (j : Int) + 1 < (m : Int) + 1 := by omega
              have c4 : (0 : Int) ≤ (j : Int) + 1 := by omega
              clear hk1 hk2
              by_cases hxy : x = y
              · subst hxy
                have heq : (x.toList == x.toList) = true := by simp
                have HKP := hid (show Dif.keepD ByteArray.empty xs ys i j = decide ((Dif.kAt xs ys i j : Int) = (Dif.kAt xs ys (i + 1) (j + 1) : Int) + 1) by rw [HKP0.out]; simp only [true_and]; exact decide_eq_decide.2 (by omega))
                clear HKP0
                refine wp_region_chain (fun W => W.heap[g10]? = some (.cells #[.int .i64 (j : Int)] 3 (0, 0)) ∧ TabAt W o r (n + 1) (m + 1) (Dif.kAt xs ys) ∧ W.cell? (ad.add i) = some (.string x) ∧ W.cell? (bd.add j) = some (.string x)) [(0, true), (1, true), (2, true), (3, true), (4, true), (5, true), (6, true), (7, true), (8, true), (9, true), (10, true), (11, true), (12, true), (13, true), (14, true), (15, true), (16, true), (17, true), (18, true), (19, true), (20, true), (21, true), (22, true), (23, true), (24, true), (25, true), (26, true), (27, true), (28, true), (29, true), (30, true), (31, true), (32, true), (33, true), (34, true), (35, true), (36, true), (37, true), (38, true), (39, true), (40, true), (41, true)] rfl (by kernel_rfl) rfl (by kernel_rfl) ?_
                intro wc1 hb
                replace HC := hid (HC.out.grow hb)
                replace HTB := hid (HTB.out.grow hb)
                replace HG := hid (Grow.trans HG.out hb)
                replace HXC := hid (grow_cell HXC.out hb)
                replace HYC := hid (grow_cell HYC.out hb)
                clear hb
                refine ⟨⟨HC.out.c10, HTB.out, HXC.out, HYC.out⟩, ?_⟩
                (refine' ch_val ?po1 ?pw1 ?pr1 ?pq1 ?ph1; (case' po1 => exact rfl); (case' pw1 => rfl); (case' pq1 => (exact fun _ _ _ h => h)); (case' pr1 => (intro w' hw'; go_simp; with_reducible rfl)); (case' ph1 => (try simp only [List.getElem_toArray, List.getElem_cons_zero, List.getElem_cons_succ, Act.put, List.setIfInBounds_toArray, List.set_cons_zero, List.set_cons_succ]))); (refine' ch_val ?po2 ?pw2 ?pr2 ?pq2 ?ph2; (case' po2 => exact rfl); (case' pw2 => rfl); (case' pq2 => (exact fun _ _ _ h => h)); (case' pr2 => (intro w' hw'; go_simp; with_reducible rfl)); (case' ph2 => (try simp only [List.getElem_toArray, List.getElem_cons_zero, List.getElem_cons_succ, Act.put, List.setIfInBounds_toArray, List.set_cons_zero, List.set_cons_succ]))); (refine' ch_val ?po3 ?pw3 ?pr3 ?pq3 ?ph3; (case' po3 => exact rfl); (case' pw3 => rfl); (case' pq3 => (exact fun _ _ _ h => h)); (case' pr3 => (intro w' hw'; go_simp; with_reducible rfl)); (case' ph3 => (try simp only [List.getElem_toArray, List.getElem_cons_zero, List.getElem_cons_succ, Act.put, List.setIfInBounds_toArray, List.set_cons_zero, List.set_cons_succ]))); (refine' ch_val ?po4 ?pw4 ?pr4 ?pq4 ?ph4; (case' po4 => exact rfl); (case' pw4 => rfl); (case' pq4 => (exact fun _ _ _ h => h)); (case' pr4 => (intro w' hw'; go_simp; with_reducible rfl)); (case' ph4 => (try simp only [List.getElem_toArray, List.getElem_cons_zero, List.getElem_cons_succ, Act.put, List.setIfInBounds_toArray, List.set_cons_zero, List.set_cons_succ]))); (refine' ch_val ?po5 ?pw5 ?pr5 ?pq5 ?ph5; (case' po5 => exact rfl); (case' pw5 => rfl); (case' pq5 => (exact fun _ _ _ h => h)); (case' pr5 => (intro w' hw'; go_simp; with_reducible rfl)); (case' ph5 => (try simp only [List.getElem_toArray, List.getElem_cons_zero, List.getElem_cons_succ, Act.put, List.setIfInBounds_toArray, List.set_cons_zero, List.set_cons_succ])))
                (refine' ch_val (v := (.int .i64 (j : Int))) ?po6 ?pw6 ?pr6 ?pq6 ?ph6; (case' po6 => exact rfl); (case' pw6 => rfl); (case' pq6 => (exact fun _ _ _ h => h)); (case' pr6 => (intro w' hw'; exact run_opLoadC rfl rfl hw'.1 rfl Try.underlying3 rfl)); (case' ph6 => (try simp only [List.getElem_toArray, List.getElem_cons_zero, List.getElem_cons_succ, Act.put, List.setIfInBounds_toArray, List.set_cons_zero, List.set_cons_succ])))
                (refine' ch_val ?po7 ?pw7 ?pr7 ?pq7 ?ph7; (case' po7 => exact rfl); (case' pw7 => rfl); (case' pq7 => (exact fun _ _ _ h => h)); (case' pr7 => (intro w' hw'; go_simp; with_reducible rfl)); (case' ph7 => (try simp only [List.getElem_toArray, List.getElem_cons_zero, List.getElem_cons_succ, Act.put, List.setIfInBounds_toArray, List.set_cons_zero, List.set_cons_succ]))); (refine' ch_val ?po8 ?pw8 ?pr8 ?pq8 ?ph8; (case' po8 => exact rfl); (case' pw8 => rfl); (case' pq8 => (exact fun _ _ _ h => h)); (case' pr8 => (intro w' hw'; go_simp; with_reducible rfl)); (case' ph8 => (try simp only [List.getElem_toArray, List.getElem_cons_zero, List.getElem_cons_succ, Act.put, List.setIfInBounds_toArray, List.set_cons_zero, List.set_cons_succ]))); (refine' ch_val ?po9 ?pw9 ?pr9 ?pq9 ?ph9; (case' po9 => exact rfl); (case' pw9 => rfl); (case' pq9 => (exact fun _ _ _ h => h)); (case' pr9 => (intro w' hw'; go_simp; with_reducible rfl)); (case' ph9 => (try simp only [List.getElem_toArray, List.getElem_cons_zero, List.getElem_cons_succ, Act.put, List.setIfInBounds_toArray, List.set_cons_zero, List.set_cons_succ]))); (refine' ch_val ?po10 ?pw10 ?pr10 ?pq10 ?ph10; (case' po10 => exact rfl); (case' pw10 => rfl); (case' pq10 => (exact fun _ _ _ h => h)); (case' pr10 => (intro w' hw'; go_simp; with_reducible rfl)); (case' ph10 => (try simp only [List.getElem_toArray, List.getElem_cons_zero, List.getElem_cons_succ, Act.put, List.setIfInBounds_toArray, List.set_cons_zero, List.set_cons_succ]))); (refine' ch_val ?po11 ?pw11 ?pr11 ?pq11 ?ph11; (case' po11 => exact rfl); (case' pw11 => rfl); (case' pq11 => (exact fun _ _ _ h => h)); (case' pr11 => (intro w' hw'; go_simp; with_reducible rfl)); (case' ph11 => (try simp only [List.getElem_toArray, List.getElem_cons_zero, List.getElem_cons_succ, Act.put, List.setIfInBounds_toArray, List.set_cons_zero, List.set_cons_succ]))); (refine' ch_val ?po12 ?pw12 ?pr12 ?pq12 ?ph12; (case' po12 => exact rfl); (case' pw12 => rfl); (case' pq12 => (exact fun _ _ _ h => h)); (case' pr12 => (intro w' hw'; go_simp; with_reducible rfl)); (case' ph12 => (try simp only [List.getElem_toArray, List.getElem_cons_zero, List.getElem_cons_succ, Act.put, List.setIfInBounds_toArray, List.set_cons_zero, List.set_cons_succ]))); (refine' ch_val ?po13 ?pw13 ?pr13 ?pq13 ?ph13; (case' po13 => exact rfl); (case' pw13 => rfl); (case' pq13 => (exact fun _ _ _ h => h)); (case' pr13 => (intro w' hw'; go_simp; with_reducible rfl)); (case' ph13 => (try simp only [List.getElem_toArray, List.getElem_cons_zero, List.getElem_cons_succ, Act.put, List.setIfInBounds_toArray, List.set_cons_zero, List.set_cons_succ]))); (refine' ch_val ?po14 ?pw14 ?pr14 ?pq14 ?ph14; (case' po14 => exact rfl); (case' pw14 => rfl); (case' pq14 => (exact fun _ _ _ h => h)); (case' pr14 => (intro w' hw'; go_simp; with_reducible rfl)); (case' ph14 => (try simp only [List.getElem_toArray, List.getElem_cons_zero, List.getElem_cons_succ, Act.put, List.setIfInBounds_toArray, List.set_cons_zero, List.set_cons_succ])))
                (refine' ch_val (v := (.string x)) ?po15 ?pw15 ?pr15 ?pq15 ?ph15; (case' po15 => exact rfl); (case' pw15 => rfl); (case' pq15 => (exact fun _ _ _ h => h)); (case' pr15 => (intro w' hw'; exact run_opLoad1 rfl rfl hw'.2.2.1 Try.underlying9 rfl)); (case' ph15 => (try simp only [List.getElem_toArray, List.getElem_cons_zero, List.getElem_cons_succ, Act.put, List.setIfInBounds_toArray, List.set_cons_zero, List.set_cons_succ])))
                (refine' ch_val ?po16 ?pw16 ?pr16 ?pq16 ?ph16; (case' po16 => exact rfl); (case' pw16 => rfl); (case' pq16 => (exact fun _ _ _ h => h)); (case' pr16 => (intro w' hw'; go_simp; with_reducible rfl)); (case' ph16 => (try simp only [List.getElem_toArray, List.getElem_cons_zero, List.getElem_cons_succ, Act.put, List.setIfInBounds_toArray, List.set_cons_zero, List.set_cons_succ])))
                (refine' ch_val (v := (.int .i64 (j : Int))) ?po17 ?pw17 ?pr17 ?pq17 ?ph17; (case' po17 => exact rfl); (case' pw17 => rfl); (case' pq17 => (exact fun _ _ _ h => h)); (case' pr17 => (intro w' hw'; exact run_opLoadC rfl rfl hw'.1 rfl Try.underlying3 rfl)); (case' ph17 => (try simp only [List.getElem_toArray, List.getElem_cons_zero, List.getElem_cons_succ, Act.put, List.setIfInBounds_toArray, List.set_cons_zero, List.set_cons_succ])))
                (refine' ch_val ?po18 ?pw18 ?pr18 ?pq18 ?ph18; (case' po18 => exact rfl); (case' pw18 => rfl); (case' pq18 => (exact fun _ _ _ h => h)); (case' pr18 => (intro w' hw'; go_simp; with_reducible rfl)); (case' ph18 => (try simp only [List.getElem_toArray, List.getElem_cons_zero, List.getElem_cons_succ, Act.put, List.setIfInBounds_toArray, List.set_cons_zero, List.set_cons_succ])))
                (refine' ch_val (v := (.string x)) ?po19 ?pw19 ?pr19 ?pq19 ?ph19; (case' po19 => exact rfl); (case' pw19 => rfl); (case' pq19 => (exact fun _ _ _ h => h)); (case' pr19 => (intro w' hw'; exact run_opLoad1 rfl rfl hw'.2.2.2 Try.underlying9 rfl)); (case' ph19 => (try simp only [List.getElem_toArray, List.getElem_cons_zero, List.getElem_cons_succ, Act.put, List.setIfInBounds_toArray, List.set_cons_zero, List.set_cons_succ])))
                (refine' ch_val ?po20 ?pw20 ?pr20 ?pq20 ?ph20; (case' po20 => exact rfl); (case' pw20 => rfl); (case' pq20 => (exact fun _ _ _ h => h)); (case' pr20 => (intro w' hw'; go_simp; with_reducible rfl)); (case' ph20 => (try simp only [List.getElem_toArray, List.getElem_cons_zero, List.getElem_cons_succ, Act.put, List.setIfInBounds_toArray, List.set_cons_zero, List.set_cons_succ]))); (refine' ch_val ?po21 ?pw21 ?pr21 ?pq21 ?ph21; (case' po21 => exact rfl); (case' pw21 => rfl); (case' pq21 => (exact fun _ _ _ h => h)); (case' pr21 => (intro w' hw'; go_simp; with_reducible rfl)); (case' ph21 => (try simp only [List.getElem_toArray, List.getElem_cons_zero, List.getElem_cons_succ, Act.put, List.setIfInBounds_toArray, List.set_cons_zero, List.set_cons_succ]))); (refine' ch_val ?po22 ?pw22 ?pr22 ?pq22 ?ph22; (case' po22 => exact rfl); (case' pw22 => rfl); (case' pq22 => (exact fun _ _ _ h => h)); (case' pr22 => (intro w' hw'; go_simp; with_reducible rfl)); (case' ph22 => (try simp only [List.getElem_toArray, List.getElem_cons_zero, List.getElem_cons_succ, Act.put, List.setIfInBounds_toArray, List.set_cons_zero, List.set_cons_succ]))); (refine' ch_val ?po23 ?pw23 ?pr23 ?pq23 ?ph23; (case' po23 => exact rfl); (case' pw23 => rfl); (case' pq23 => (exact fun _ _ _ h => h)); (case' pr23 => (intro w' hw'; go_simp; with_reducible rfl)); (case' ph23 => (try simp only [List.getElem_toArray, List.getElem_cons_zero, List.getElem_cons_succ, Act.put, List.setIfInBounds_toArray, List.set_cons_zero, List.set_cons_succ]))); (refine' ch_val ?po24 ?pw24 ?pr24 ?pq24 ?ph24; (case' po24 => exact rfl); (case' pw24 => rfl); (case' pq24 => (exact fun _ _ _ h => h)); (case' pr24 => (intro w' hw'; go_simp; with_reducible rfl)); (case' ph24 => (try simp only [List.getElem_toArray, List.getElem_cons_zero, List.getElem_cons_succ, Act.put, List.setIfInBounds_toArray, List.set_cons_zero, List.set_cons_succ]))); (refine' ch_val ?po25 ?pw25 ?pr25 ?pq25 ?ph25; (case' po25 => exact rfl); (case' pw25 => rfl); (case' pq25 => (exact fun _ _ _ h => h)); (case' pr25 => (intro w' hw'; go_simp; with_reducible rfl)); (case' ph25 => (try simp only [List.getElem_toArray, List.getElem_cons_zero, List.getElem_cons_succ, Act.put, List.setIfInBounds_toArray, List.set_cons_zero, List.set_cons_succ])))
                (refine' ch_val (v := (.slice (some ⟨r (i), 0, none⟩) (m + 1) (m + 1))) ?po26 ?pw26 ?pr26 ?pq26 ?ph26; (case' po26 => exact rfl); (case' pw26 => rfl); (case' pq26 => (exact fun _ _ _ h => h)); (case' pr26 => (intro w' hw'; exact run_opLoad1 rfl rfl (hw'.2.1.cellRow (show i < n + 1 by omega)) Try.underlying73 rfl)); (case' ph26 => (try simp only [List.getElem_toArray, List.getElem_cons_zero, List.getElem_cons_succ, Act.put, List.setIfInBounds_toArray, List.set_cons_zero, List.set_cons_succ])))
                (refine' ch_val (v := (.int .i64 (j : Int))) ?po27 ?pw27 ?pr27 ?pq27 ?ph27; (case' po27 => exact rfl); (case' pw27 => rfl); (case' pq27 => (exact fun _ _ _ h => h)); (case' pr27 => (intro w' hw'; exact run_opLoadC rfl rfl hw'.1 rfl Try.underlying3 rfl)); (case' ph27 => (try simp only [List.getElem_toArray, List.getElem_cons_zero, List.getElem_cons_succ, Act.put, List.setIfInBounds_toArray, List.set_cons_zero, List.set_cons_succ])))
                (refine' ch_val ?po28 ?pw28 ?pr28 ?pq28 ?ph28; (case' po28 => exact rfl); (case' pw28 => rfl); (case' pq28 => (exact fun _ _ _ h => h)); (case' pr28 => (intro w' hw'; go_simp; with_reducible rfl)); (case' ph28 => (try simp only [List.getElem_toArray, List.getElem_cons_zero, List.getElem_cons_succ, Act.put, List.setIfInBounds_toArray, List.set_cons_zero, List.set_cons_succ])))
                (refine' ch_val (v := (.int .i64 (Dif.kAt xs ys (i) (j) : Int))) ?po29 ?pw29 ?pr29 ?pq29 ?ph29; (case' po29 => exact rfl); (case' pw29 => rfl); (case' pq29 => (exact fun _ _ _ h => h)); (case' pr29 => (intro w' hw'; exact run_opLoad1 rfl rfl (hw'.2.1.cellVal (show i < n + 1 by omega) (show j < m + 1 by omega)) Try.underlying3 rfl)); (case' ph29 => (try simp only [List.getElem_toArray, List.getElem_cons_zero, List.getElem_cons_succ, Act.put, List.setIfInBounds_toArray, List.set_cons_zero, List.set_cons_succ])))
                (refine' ch_val ?po30 ?pw30 ?pr30 ?pq30 ?ph30; (case' po30 => exact rfl); (case' pw30 => rfl); (case' pq30 => (exact fun _ _ _ h => h)); (case' pr30 => (intro w' hw'; go_simp; with_reducible rfl)); (case' ph30 => (try simp only [List.getElem_toArray, List.getElem_cons_zero, List.getElem_cons_succ, Act.put, List.setIfInBounds_toArray, List.set_cons_zero, List.set_cons_succ]))); (refine' ch_val ?po31 ?pw31 ?pr31 ?pq31 ?ph31; (case' po31 => exact rfl); (case' pw31 => rfl); (case' pq31 => (exact fun _ _ _ h => h)); (case' pr31 => (intro w' hw'; go_simp; with_reducible rfl)); (case' ph31 => (try simp only [List.getElem_toArray, List.getElem_cons_zero, List.getElem_cons_succ, Act.put, List.setIfInBounds_toArray, List.set_cons_zero, List.set_cons_succ]))); (refine' ch_val ?po32 ?pw32 ?pr32 ?pq32 ?ph32; (case' po32 => exact rfl); (case' pw32 => rfl); (case' pq32 => (exact fun _ _ _ h => h)); (case' pr32 => (intro w' hw'; go_simp; with_reducible rfl)); (case' ph32 => (try simp only [List.getElem_toArray, List.getElem_cons_zero, List.getElem_cons_succ, Act.put, List.setIfInBounds_toArray, List.set_cons_zero, List.set_cons_succ]))); (refine' ch_val ?po33 ?pw33 ?pr33 ?pq33 ?ph33; (case' po33 => exact rfl); (case' pw33 => rfl); (case' pq33 => (exact fun _ _ _ h => h)); (case' pr33 => (intro w' hw'; go_simp; with_reducible rfl)); (case' ph33 => (try simp only [List.getElem_toArray, List.getElem_cons_zero, List.getElem_cons_succ, Act.put, List.setIfInBounds_toArray, List.set_cons_zero, List.set_cons_succ])))
                (refine' ch_val (v := (.slice (some ⟨r (i + 1), 0, none⟩) (m + 1) (m + 1))) ?po34 ?pw34 ?pr34 ?pq34 ?ph34; (case' po34 => exact rfl); (case' pw34 => rfl); (case' pq34 => (exact fun _ _ _ h => h)); (case' pr34 => (intro w' hw'; exact run_opLoad1 rfl rfl (hw'.2.1.cellRow (show i + 1 < n + 1 by omega)) Try.underlying73 rfl)); (case' ph34 => (try simp only [List.getElem_toArray, List.getElem_cons_zero, List.getElem_cons_succ, Act.put, List.setIfInBounds_toArray, List.set_cons_zero, List.set_cons_succ])))
                (refine' ch_val (v := (.int .i64 (j : Int))) ?po35 ?pw35 ?pr35 ?pq35 ?ph35; (case' po35 => exact rfl); (case' pw35 => rfl); (case' pq35 => (exact fun _ _ _ h => h)); (case' pr35 => (intro w' hw'; exact run_opLoadC rfl rfl hw'.1 rfl Try.underlying3 rfl)); (case' ph35 => (try simp only [List.getElem_toArray, List.getElem_cons_zero, List.getElem_cons_succ, Act.put, List.setIfInBounds_toArray, List.set_cons_zero, List.set_cons_succ])))
                (refine' ch_val ?po36 ?pw36 ?pr36 ?pq36 ?ph36; (case' po36 => exact rfl); (case' pw36 => rfl); (case' pq36 => (exact fun _ _ _ h => h)); (case' pr36 => (intro w' hw'; go_simp; with_reducible rfl)); (case' ph36 => (try simp only [List.getElem_toArray, List.getElem_cons_zero, List.getElem_cons_succ, Act.put, List.setIfInBounds_toArray, List.set_cons_zero, List.set_cons_succ]))); (refine' ch_val ?po37 ?pw37 ?pr37 ?pq37 ?ph37; (case' po37 => exact rfl); (case' pw37 => rfl); (case' pq37 => (exact fun _ _ _ h => h)); (case' pr37 => (intro w' hw'; go_simp; with_reducible rfl)); (case' ph37 => (try simp only [List.getElem_toArray, List.getElem_cons_zero, List.getElem_cons_succ, Act.put, List.setIfInBounds_toArray, List.set_cons_zero, List.set_cons_succ])))
                (refine' ch_val (v := (.int .i64 (Dif.kAt xs ys (i + 1) (j + 1) : Int))) ?po38 ?pw38 ?pr38 ?pq38 ?ph38; (case' po38 => exact rfl); (case' pw38 => rfl); (case' pq38 => (exact fun _ _ _ h => h)); (case' pr38 => (intro w' hw'; exact run_opLoad1 rfl rfl (hw'.2.1.cellVal (show i + 1 < n + 1 by omega) (show j + 1 < m + 1 by omega)) Try.underlying3 rfl)); (case' ph38 => (try simp only [List.getElem_toArray, List.getElem_cons_zero, List.getElem_cons_succ, Act.put, List.setIfInBounds_toArray, List.set_cons_zero, List.set_cons_succ])))
                (refine' ch_val ?po39 ?pw39 ?pr39 ?pq39 ?ph39; (case' po39 => exact rfl); (case' pw39 => rfl); (case' pq39 => (exact fun _ _ _ h => h)); (case' pr39 => (intro w' hw'; go_simp; with_reducible rfl)); (case' ph39 => (try simp only [List.getElem_toArray, List.getElem_cons_zero, List.getElem_cons_succ, Act.put, List.setIfInBounds_toArray, List.set_cons_zero, List.set_cons_succ]))); (refine' ch_val ?po40 ?pw40 ?pr40 ?pq40 ?ph40; (case' po40 => exact rfl); (case' pw40 => rfl); (case' pq40 => (exact fun _ _ _ h => h)); (case' pr40 => (intro w' hw'; go_simp; with_reducible rfl)); (case' ph40 => (try simp only [List.getElem_toArray, List.getElem_cons_zero, List.getElem_cons_succ, Act.put, List.setIfInBounds_toArray, List.set_cons_zero, List.set_cons_succ]))); (refine' ch_val ?po41 ?pw41 ?pr41 ?pq41 ?ph41; (case' po41 => exact rfl); (case' pw41 => rfl); (case' pq41 => (exact fun _ _ _ h => h)); (case' pr41 => (intro w' hw'; go_simp; with_reducible rfl)); (case' ph41 => (try simp only [List.getElem_toArray, List.getElem_cons_zero, List.getElem_cons_succ, Act.put, List.setIfInBounds_toArray, List.set_cons_zero, List.set_cons_succ]))); (refine' ch_val ?po42 ?pw42 ?pr42 ?pq42 ?ph42; (case' po42 => exact rfl); (case' pw42 => rfl); (case' pq42 => (exact fun _ _ _ h => h)); (case' pr42 => (intro w' hw'; go_simp; with_reducible rfl)); (case' ph42 => (try simp only [List.getElem_toArray, List.getElem_cons_zero, List.getElem_cons_succ, Act.put, List.setIfInBounds_toArray, List.set_cons_zero, List.set_cons_succ])))
                refine ch_nil ?_
                refine ⟨⟨by rw [hF]; exact ⟨rfl, rfl, rfl, rfl, rfl, rfl, rfl, rfl, rfl, rfl⟩, ?_⟩, HG.out⟩
                first
                  | rfl
                  | (rw [HKP.out]; rfl)
                  | (rw [HKP.out]; exact congrArg Value.bool (decide_eq_decide.2 (by omega)))
              · have hne : (x.toList == y.toList) = false := toList_beq_ne hxy
                have HKP := hid (show Dif.keepD ByteArray.empty xs ys i j = false by rw [HKP0.out]; simp [hxy])
                clear HKP0 hxy
                refine wp_region_chain (fun W => W.heap[g10]? = some (.cells #[.int .i64 (j : Int)] 3 (0, 0)) ∧ TabAt W o r (n + 1) (m + 1) (Dif.kAt xs ys) ∧ W.cell? (ad.add i) = some (.string x) ∧ W.cell? (bd.add j) = some (.string y)) [(0, true), (1, true), (2, true), (3, true), (4, true), (5, true), (6, true), (7, true), (8, true), (9, true), (10, true), (11, true), (12, true), (13, true), (14, true), (15, true), (16, true), (17, true), (18, true), (19, true), (20, true), (21, true), (22, true), (23, true), (24, true), (25, true), (26, true), (27, true), (28, true), (29, true), (30, true), (31, true), (32, true), (33, true), (34, true), (35, true), (36, true), (37, true), (38, true), (39, true), (40, true), (41, true)] rfl (by kernel_rfl) rfl (by kernel_rfl) ?_
                intro wc2 hb
                replace HC := hid (HC.out.grow hb)
                replace HTB := hid (HTB.out.grow hb)
                replace HG := hid (Grow.trans HG.out hb)
                replace HXC := hid (grow_cell HXC.out hb)
                replace HYC := hid (grow_cell HYC.out hb)
                clear hb
                refine ⟨⟨HC.out.c10, HTB.out, HXC.out, HYC.out⟩, ?_⟩
                (refine' ch_val ?po43 ?pw43 ?pr43 ?pq43 ?ph43; (case' po43 => exact rfl); (case' pw43 => rfl); (case' pq43 => (exact fun _ _ _ h => h)); (case' pr43 => (intro w' hw'; go_simp; with_reducible rfl)); (case' ph43 => (try simp only [List.getElem_toArray, List.getElem_cons_zero, List.getElem_cons_succ, Act.put, List.setIfInBounds_toArray, List.set_cons_zero, List.set_cons_succ]))); (refine' ch_val ?po44 ?pw44 ?pr44 ?pq44 ?ph44; (case' po44 => exact rfl); (case' pw44 => rfl); (case' pq44 => (exact fun _ _ _ h => h)); (case' pr44 => (intro w' hw'; go_simp; with_reducible rfl)); (case' ph44 => (try simp only [List.getElem_toArray, List.getElem_cons_zero, List.getElem_cons_succ, Act.put, List.setIfInBounds_toArray, List.set_cons_zero, List.set_cons_succ]))); (refine' ch_val ?po45 ?pw45 ?pr45 ?pq45 ?ph45; (case' po45 => exact rfl); (case' pw45 => rfl); (case' pq45 => (exact fun _ _ _ h => h)); (case' pr45 => (intro w' hw'; go_simp; with_reducible rfl)); (case' ph45 => (try simp only [List.getElem_toArray, List.getElem_cons_zero, List.getElem_cons_succ, Act.put, List.setIfInBounds_toArray, List.set_cons_zero, List.set_cons_succ]))); (refine' ch_val ?po46 ?pw46 ?pr46 ?pq46 ?ph46; (case' po46 => exact rfl); (case' pw46 => rfl); (case' pq46 => (exact fun _ _ _ h => h)); (case' pr46 => (intro w' hw'; go_simp; with_reducible rfl)); (case' ph46 => (try simp only [List.getElem_toArray, List.getElem_cons_zero, List.getElem_cons_succ, Act.put, List.setIfInBounds_toArray, List.set_cons_zero, List.set_cons_succ]))); (refine' ch_val ?po47 ?pw47 ?pr47 ?pq47 ?ph47; (case' po47 => exact rfl); (case' pw47 => rfl); (case' pq47 => (exact fun _ _ _ h => h)); (case' pr47 => (intro w' hw'; go_simp; with_reducible rfl)); (case' ph47 => (try simp only [List.getElem_toArray, List.getElem_cons_zero, List.getElem_cons_succ, Act.put, List.setIfInBounds_toArray, List.set_cons_zero, List.set_cons_succ])))
                (refine' ch_val (v := (.int .i64 (j : Int))) ?po48 ?pw48 ?pr48 ?pq48 ?ph48; (case' po48 => exact rfl); (case' pw48 => rfl); (case' pq48 => (exact fun _ _ _ h => h)); (case' pr48 => (intro w' hw'; exact run_opLoadC rfl rfl hw'.1 rfl Try.underlying3 rfl)); (case' ph48 => (try simp only [List.getElem_toArray, List.getElem_cons_zero, List.getElem_cons_succ, Act.put, List.setIfInBounds_toArray, List.set_cons_zero, List.set_cons_succ])))
                (refine' ch_val ?po49 ?pw49 ?pr49 ?pq49 ?ph49; (case' po49 => exact rfl); (case' pw49 => rfl); (case' pq49 => (exact fun _ _ _ h => h)); (case' pr49 => (intro w' hw'; go_simp; with_reducible rfl)); (case' ph49 => (try simp only [List.getElem_toArray, List.getElem_cons_zero, List.getElem_cons_succ, Act.put, List.setIfInBounds_toArray, List.set_cons_zero, List.set_cons_succ]))); (refine' ch_val ?po50 ?pw50 ?pr50 ?pq50 ?ph50; (case' po50 => exact rfl); (case' pw50 => rfl); (case' pq50 => (exact fun _ _ _ h => h)); (case' pr50 => (intro w' hw'; go_simp; with_reducible rfl)); (case' ph50 => (try simp only [List.getElem_toArray, List.getElem_cons_zero, List.getElem_cons_succ, Act.put, List.setIfInBounds_toArray, List.set_cons_zero, List.set_cons_succ]))); (refine' ch_val ?po51 ?pw51 ?pr51 ?pq51 ?ph51; (case' po51 => exact rfl); (case' pw51 => rfl); (case' pq51 => (exact fun _ _ _ h => h)); (case' pr51 => (intro w' hw'; go_simp; with_reducible rfl)); (case' ph51 => (try simp only [List.getElem_toArray, List.getElem_cons_zero, List.getElem_cons_succ, Act.put, List.setIfInBounds_toArray, List.set_cons_zero, List.set_cons_succ]))); (refine' ch_val ?po52 ?pw52 ?pr52 ?pq52 ?ph52; (case' po52 => exact rfl); (case' pw52 => rfl); (case' pq52 => (exact fun _ _ _ h => h)); (case' pr52 => (intro w' hw'; go_simp; with_reducible rfl)); (case' ph52 => (try simp only [List.getElem_toArray, List.getElem_cons_zero, List.getElem_cons_succ, Act.put, List.setIfInBounds_toArray, List.set_cons_zero, List.set_cons_succ]))); (refine' ch_val ?po53 ?pw53 ?pr53 ?pq53 ?ph53; (case' po53 => exact rfl); (case' pw53 => rfl); (case' pq53 => (exact fun _ _ _ h => h)); (case' pr53 => (intro w' hw'; go_simp; with_reducible rfl)); (case' ph53 => (try simp only [List.getElem_toArray, List.getElem_cons_zero, List.getElem_cons_succ, Act.put, List.setIfInBounds_toArray, List.set_cons_zero, List.set_cons_succ]))); (refine' ch_val ?po54 ?pw54 ?pr54 ?pq54 ?ph54; (case' po54 => exact rfl); (case' pw54 => rfl); (case' pq54 => (exact fun _ _ _ h => h)); (case' pr54 => (intro w' hw'; go_simp; with_reducible rfl)); (case' ph54 => (try simp only [List.getElem_toArray, List.getElem_cons_zero, List.getElem_cons_succ, Act.put, List.setIfInBounds_toArray, List.set_cons_zero, List.set_cons_succ]))); (refine' ch_val ?po55 ?pw55 ?pr55 ?pq55 ?ph55; (case' po55 => exact rfl); (case' pw55 => rfl); (case' pq55 => (exact fun _ _ _ h => h)); (case' pr55 => (intro w' hw'; go_simp; with_reducible rfl)); (case' ph55 => (try simp only [List.getElem_toArray, List.getElem_cons_zero, List.getElem_cons_succ, Act.put, List.setIfInBounds_toArray, List.set_cons_zero, List.set_cons_succ]))); (refine' ch_val ?po56 ?pw56 ?pr56 ?pq56 ?ph56; (case' po56 => exact rfl); (case' pw56 => rfl); (case' pq56 => (exact fun _ _ _ h => h)); (case' pr56 => (intro w' hw'; go_simp; with_reducible rfl)); (case' ph56 => (try simp only [List.getElem_toArray, List.getElem_cons_zero, List.getElem_cons_succ, Act.put, List.setIfInBounds_toArray, List.set_cons_zero, List.set_cons_succ])))
                (refine' ch_val (v := (.string x)) ?po57 ?pw57 ?pr57 ?pq57 ?ph57; (case' po57 => exact rfl); (case' pw57 => rfl); (case' pq57 => (exact fun _ _ _ h => h)); (case' pr57 => (intro w' hw'; exact run_opLoad1 rfl rfl hw'.2.2.1 Try.underlying9 rfl)); (case' ph57 => (try simp only [List.getElem_toArray, List.getElem_cons_zero, List.getElem_cons_succ, Act.put, List.setIfInBounds_toArray, List.set_cons_zero, List.set_cons_succ])))
                (refine' ch_val ?po58 ?pw58 ?pr58 ?pq58 ?ph58; (case' po58 => exact rfl); (case' pw58 => rfl); (case' pq58 => (exact fun _ _ _ h => h)); (case' pr58 => (intro w' hw'; go_simp; with_reducible rfl)); (case' ph58 => (try simp only [List.getElem_toArray, List.getElem_cons_zero, List.getElem_cons_succ, Act.put, List.setIfInBounds_toArray, List.set_cons_zero, List.set_cons_succ])))
                (refine' ch_val (v := (.int .i64 (j : Int))) ?po59 ?pw59 ?pr59 ?pq59 ?ph59; (case' po59 => exact rfl); (case' pw59 => rfl); (case' pq59 => (exact fun _ _ _ h => h)); (case' pr59 => (intro w' hw'; exact run_opLoadC rfl rfl hw'.1 rfl Try.underlying3 rfl)); (case' ph59 => (try simp only [List.getElem_toArray, List.getElem_cons_zero, List.getElem_cons_succ, Act.put, List.setIfInBounds_toArray, List.set_cons_zero, List.set_cons_succ])))
                (refine' ch_val ?po60 ?pw60 ?pr60 ?pq60 ?ph60; (case' po60 => exact rfl); (case' pw60 => rfl); (case' pq60 => (exact fun _ _ _ h => h)); (case' pr60 => (intro w' hw'; go_simp; with_reducible rfl)); (case' ph60 => (try simp only [List.getElem_toArray, List.getElem_cons_zero, List.getElem_cons_succ, Act.put, List.setIfInBounds_toArray, List.set_cons_zero, List.set_cons_succ])))
                (refine' ch_val (v := (.string y)) ?po61 ?pw61 ?pr61 ?pq61 ?ph61; (case' po61 => exact rfl); (case' pw61 => rfl); (case' pq61 => (exact fun _ _ _ h => h)); (case' pr61 => (intro w' hw'; exact run_opLoad1 rfl rfl hw'.2.2.2 Try.underlying9 rfl)); (case' ph61 => (try simp only [List.getElem_toArray, List.getElem_cons_zero, List.getElem_cons_succ, Act.put, List.setIfInBounds_toArray, List.set_cons_zero, List.set_cons_succ])))
                (refine' ch_val ?po62 ?pw62 ?pr62 ?pq62 ?ph62; (case' po62 => exact rfl); (case' pw62 => rfl); (case' pq62 => (exact fun _ _ _ h => h)); (case' pr62 => (intro w' hw'; go_simp; with_reducible rfl)); (case' ph62 => (try simp only [List.getElem_toArray, List.getElem_cons_zero, List.getElem_cons_succ, Act.put, List.setIfInBounds_toArray, List.set_cons_zero, List.set_cons_succ]))); (refine' ch_val ?po63 ?pw63 ?pr63 ?pq63 ?ph63; (case' po63 => exact rfl); (case' pw63 => rfl); (case' pq63 => (exact fun _ _ _ h => h)); (case' pr63 => (intro w' hw'; go_simp; with_reducible rfl)); (case' ph63 => (try simp only [List.getElem_toArray, List.getElem_cons_zero, List.getElem_cons_succ, Act.put, List.setIfInBounds_toArray, List.set_cons_zero, List.set_cons_succ]))); (refine' ch_val ?po64 ?pw64 ?pr64 ?pq64 ?ph64; (case' po64 => exact rfl); (case' pw64 => rfl); (case' pq64 => (exact fun _ _ _ h => h)); (case' pr64 => (intro w' hw'; go_simp; with_reducible rfl)); (case' ph64 => (try simp only [List.getElem_toArray, List.getElem_cons_zero, List.getElem_cons_succ, Act.put, List.setIfInBounds_toArray, List.set_cons_zero, List.set_cons_succ])))
                (refine' ch_skip rfl rfl (fun _ _ _ h => h) ?_; try simp only [List.getElem_toArray, List.getElem_cons_zero, List.getElem_cons_succ, Act.put, List.setIfInBounds_toArray, List.set_cons_zero, List.set_cons_succ]); (refine' ch_skip rfl rfl (fun _ _ _ h => h) ?_; try simp only [List.getElem_toArray, List.getElem_cons_zero, List.getElem_cons_succ, Act.put, List.setIfInBounds_toArray, List.set_cons_zero, List.set_cons_succ]); (refine' ch_skip rfl rfl (fun _ _ _ h => h) ?_; try simp only [List.getElem_toArray, List.getElem_cons_zero, List.getElem_cons_succ, Act.put, List.setIfInBounds_toArray, List.set_cons_zero, List.set_cons_succ]); (refine' ch_skip rfl rfl (fun _ _ _ h => h) ?_; try simp only [List.getElem_toArray, List.getElem_cons_zero, List.getElem_cons_succ, Act.put, List.setIfInBounds_toArray, List.set_cons_zero, List.set_cons_succ]); (refine' ch_skip rfl rfl (fun _ _ _ h => h) ?_; try simp only [List.getElem_toArray, List.getElem_cons_zero, List.getElem_cons_succ, Act.put, List.setIfInBounds_toArray, List.set_cons_zero, List.set_cons_succ]); (refine' ch_skip rfl rfl (fun _ _ _ h => h) ?_; try simp only [List.getElem_toArray, List.getElem_cons_zero, List.getElem_cons_succ, Act.put, List.setIfInBounds_toArray, List.set_cons_zero, List.set_cons_succ]); (refine' ch_skip rfl rfl (fun _ _ _ h => h) ?_; try simp only [List.getElem_toArray, List.getElem_cons_zero, List.getElem_cons_succ, Act.put, List.setIfInBounds_toArray, List.set_cons_zero, List.set_cons_succ]); (refine' ch_skip rfl rfl (fun _ _ _ h => h) ?_; try simp only [List.getElem_toArray, List.getElem_cons_zero, List.getElem_cons_succ, Act.put, List.setIfInBounds_toArray, List.set_cons_zero, List.set_cons_succ]); (refine' ch_skip rfl rfl (fun _ _ _ h => h) ?_; try simp only [List.getElem_toArray, List.getElem_cons_zero, List.getElem_cons_succ, Act.put, List.setIfInBounds_toArray, List.set_cons_zero, List.set_cons_succ]); (refine' ch_skip rfl rfl (fun _ _ _ h => h) ?_; try simp only [List.getElem_toArray, List.getElem_cons_zero, List.getElem_cons_succ, Act.put, List.setIfInBounds_toArray, List.set_cons_zero, List.set_cons_succ]); (refine' ch_skip rfl rfl (fun _ _ _ h => h) ?_; try simp only [List.getElem_toArray, List.getElem_cons_zero, List.getElem_cons_succ, Act.put, List.setIfInBounds_toArray, List.set_cons_zero, List.set_cons_succ]); (refine' ch_skip rfl rfl (fun _ _ _ h => h) ?_; try simp only [List.getElem_toArray, List.getElem_cons_zero, List.getElem_cons_succ, Act.put, List.setIfInBounds_toArray, List.set_cons_zero, List.set_cons_succ]); (refine' ch_skip rfl rfl (fun _ _ _ h => h) ?_; try simp only [List.getElem_toArray, List.getElem_cons_zero, List.getElem_cons_succ, Act.put, List.setIfInBounds_toArray, List.set_cons_zero, List.set_cons_succ]); (refine' ch_skip rfl rfl (fun _ _ _ h => h) ?_; try simp only [List.getElem_toArray, List.getElem_cons_zero, List.getElem_cons_succ, Act.put, List.setIfInBounds_toArray, List.set_cons_zero, List.set_cons_succ]); (refine' ch_skip rfl rfl (fun _ _ _ h => h) ?_; try simp only [List.getElem_toArray, List.getElem_cons_zero, List.getElem_cons_succ, Act.put, List.setIfInBounds_toArray, List.set_cons_zero, List.set_cons_succ]); (refine' ch_skip rfl rfl (fun _ _ _ h => h) ?_; try simp only [List.getElem_toArray, List.getElem_cons_zero, List.getElem_cons_succ, Act.put, List.setIfInBounds_toArray, List.set_cons_zero, List.set_cons_succ]); (refine' ch_skip rfl rfl (fun _ _ _ h => h) ?_; try simp only [List.getElem_toArray, List.getElem_cons_zero, List.getElem_cons_succ, Act.put, List.setIfInBounds_toArray, List.set_cons_zero, List.set_cons_succ]); (refine' ch_skip rfl rfl (fun _ _ _ h => h) ?_; try simp only [List.getElem_toArray, List.getElem_cons_zero, List.getElem_cons_succ, Act.put, List.setIfInBounds_toArray, List.set_cons_zero, List.set_cons_succ])
                (refine' ch_val ?po65 ?pw65 ?pr65 ?pq65 ?ph65; (case' po65 => exact rfl); (case' pw65 => rfl); (case' pq65 => (exact fun _ _ _ h => h)); (case' pr65 => (intro w' hw'; go_simp; with_reducible rfl)); (case' ph65 => (try simp only [List.getElem_toArray, List.getElem_cons_zero, List.getElem_cons_succ, Act.put, List.setIfInBounds_toArray, List.set_cons_zero, List.set_cons_succ]))); (refine' ch_val ?po66 ?pw66 ?pr66 ?pq66 ?ph66; (case' po66 => exact rfl); (case' pw66 => rfl); (case' pq66 => (exact fun _ _ _ h => h)); (case' pr66 => (intro w' hw'; go_simp; with_reducible rfl)); (case' ph66 => (try simp only [List.getElem_toArray, List.getElem_cons_zero, List.getElem_cons_succ, Act.put, List.setIfInBounds_toArray, List.set_cons_zero, List.set_cons_succ])))
                refine ch_nil ?_
                refine ⟨⟨by rw [hF]; exact ⟨rfl, rfl, rfl, rfl, rfl, rfl, rfl, rfl, rfl, rfl⟩, ?_⟩, HG.out⟩
                first
                  | rfl
                  | (rw [HKP.out]; rfl)
                  | (rw [HKP.out]; exact congrArg Value.bool (decide_eq_decide.2 (by omega)))
            · obtain rfl : j = m := by omega
              have HKP := hid (show Dif.keepD ByteArray.empty xs ys i j = false by unfold Dif.keepD; rw [HN.out, HM.out]; simp)
              refine wp_region_chain (fun W => W.heap[g10]? = some (.cells #[.int .i64 (j : Int)] 3 (0, 0)) ∧ TabAt W o r (n + 1) (j + 1) (Dif.kAt xs ys)) [(0, true), (1, true), (2, true), (3, true), (4, true), (5, true), (6, true), (7, true), (8, true), (9, true), (10, true), (11, true), (12, true), (13, true), (14, true), (15, true), (16, true), (17, true), (18, true), (19, true), (20, true), (21, true), (22, true), (23, true), (24, true), (25, true), (26, true), (27, true), (28, true), (29, true), (30, true), (31, true), (32, true), (33, true), (34, true), (35, true), (36, true), (37, true), (38, true), (39, true), (40, true), (41, true)] rfl (by kernel_rfl) rfl (by kernel_rfl) ?_
              intro wc3 hb
              replace HC := hid (HC.out.grow hb)
              replace HTB := hid (HTB.out.grow hb)
              replace HG := hid (Grow.trans HG.out hb)
              clear hb
              refine ⟨⟨HC.out.c10, HTB.out⟩, ?_⟩
              (refine' ch_val ?po67 ?pw67 ?pr67 ?pq67 ?ph67; (case' po67 => exact rfl); (case' pw67 => rfl); (case' pq67 => (exact fun _ _ _ h => h)); (case' pr67 => (intro w' hw'; go_simp; with_reducible rfl)); (case' ph67 => (try simp only [List.getElem_toArray, List.getElem_cons_zero, List.getElem_cons_succ, Act.put, List.setIfInBounds_toArray, List.set_cons_zero, List.set_cons_succ]))); (refine' ch_val ?po68 ?pw68 ?pr68 ?pq68 ?ph68; (case' po68 => exact rfl); (case' pw68 => rfl); (case' pq68 => (exact fun _ _ _ h => h)); (case' pr68 => (intro w' hw'; go_simp; with_reducible rfl)); (case' ph68 => (try simp only [List.getElem_toArray, List.getElem_cons_zero, List.getElem_cons_succ, Act.put, List.setIfInBounds_toArray, List.set_cons_zero, List.set_cons_succ]))); (refine' ch_val ?po69 ?pw69 ?pr69 ?pq69 ?ph69; (case' po69 => exact rfl); (case' pw69 => rfl); (case' pq69 => (exact fun _ _ _ h => h)); (case' pr69 => (intro w' hw'; go_simp; with_reducible rfl)); (case' ph69 => (try simp only [List.getElem_toArray, List.getElem_cons_zero, List.getElem_cons_succ, Act.put, List.setIfInBounds_toArray, List.set_cons_zero, List.set_cons_succ]))); (refine' ch_val ?po70 ?pw70 ?pr70 ?pq70 ?ph70; (case' po70 => exact rfl); (case' pw70 => rfl); (case' pq70 => (exact fun _ _ _ h => h)); (case' pr70 => (intro w' hw'; go_simp; with_reducible rfl)); (case' ph70 => (try simp only [List.getElem_toArray, List.getElem_cons_zero, List.getElem_cons_succ, Act.put, List.setIfInBounds_toArray, List.set_cons_zero, List.set_cons_succ]))); (refine' ch_val ?po71 ?pw71 ?pr71 ?pq71 ?ph71; (case' po71 => exact rfl); (case' pw71 => rfl); (case' pq71 => (exact fun _ _ _ h => h)); (case' pr71 => (intro w' hw'; go_simp; with_reducible rfl)); (case' ph71 => (try simp only [List.getElem_toArray, List.getElem_cons_zero, List.getElem_cons_succ, Act.put, List.setIfInBounds_toArray, List.set_cons_zero, List.set_cons_succ])))
              (refine' ch_val (v := (.int .i64 (j : Int))) ?po72 ?pw72 ?pr72 ?pq72 ?ph72; (case' po72 => exact rfl); (case' pw72 => rfl); (case' pq72 => (exact fun _ _ _ h => h)); (case' pr72 => (intro w' hw'; exact run_opLoadC rfl rfl hw'.1 rfl Try.underlying3 rfl)); (case' ph72 => (try simp only [List.getElem_toArray, List.getElem_cons_zero, List.getElem_cons_succ, Act.put, List.setIfInBounds_toArray, List.set_cons_zero, List.set_cons_succ])))
              (refine' ch_val ?po73 ?pw73 ?pr73 ?pq73 ?ph73; (case' po73 => exact rfl); (case' pw73 => rfl); (case' pq73 => (exact fun _ _ _ h => h)); (case' pr73 => (intro w' hw'; go_simp; with_reducible rfl)); (case' ph73 => (try simp only [List.getElem_toArray, List.getElem_cons_zero, List.getElem_cons_succ, Act.put, List.setIfInBounds_toArray, List.set_cons_zero, List.set_cons_succ]))); (refine' ch_val ?po74 ?pw74 ?pr74 ?pq74 ?ph74; (case' po74 => exact rfl); (case' pw74 => rfl); (case' pq74 => (exact fun _ _ _ h => h)); (case' pr74 => (intro w' hw'; go_simp; with_reducible rfl)); (case' ph74 => (try simp only [List.getElem_toArray, List.getElem_cons_zero, List.getElem_cons_succ, Act.put, List.setIfInBounds_toArray, List.set_cons_zero, List.set_cons_succ]))); (refine' ch_val ?po75 ?pw75 ?pr75 ?pq75 ?ph75; (case' po75 => exact rfl); (case' pw75 => rfl); (case' pq75 => (exact fun _ _ _ h => h)); (case' pr75 => (intro w' hw'; go_simp; with_reducible rfl)); (case' ph75 => (try simp only [List.getElem_toArray, List.getElem_cons_zero, List.getElem_cons_succ, Act.put, List.setIfInBounds_toArray, List.set_cons_zero, List.set_cons_succ]))); (refine' ch_val ?po76 ?pw76 ?pr76 ?pq76 ?ph76; (case' po76 => exact rfl); (case' pw76 => rfl); (case' pq76 => (exact fun _ _ _ h => h)); (case' pr76 => (intro w' hw'; go_simp; with_reducible rfl)); (case' ph76 => (try simp only [List.getElem_toArray, List.getElem_cons_zero, List.getElem_cons_succ, Act.put, List.setIfInBounds_toArray, List.set_cons_zero, List.set_cons_succ]))); (refine' ch_val ?po77 ?pw77 ?pr77 ?pq77 ?ph77; (case' po77 => exact rfl); (case' pw77 => rfl); (case' pq77 => (exact fun _ _ _ h => h)); (case' pr77 => (intro w' hw'; go_simp; with_reducible rfl)); (case' ph77 => (try simp only [List.getElem_toArray, List.getElem_cons_zero, List.getElem_cons_succ, Act.put, List.setIfInBounds_toArray, List.set_cons_zero, List.set_cons_succ])))
              (refine' ch_skip rfl rfl (fun _ _ _ h => h) ?_; try simp only [List.getElem_toArray, List.getElem_cons_zero, List.getElem_cons_succ, Act.put, List.setIfInBounds_toArray, List.set_cons_zero, List.set_cons_succ]); (refine' ch_skip rfl rfl (fun _ _ _ h => h) ?_; try simp only [List.getElem_toArray, List.getElem_cons_zero, List.getElem_cons_succ, Act.put, List.setIfInBounds_toArray, List.set_cons_zero, List.set_cons_succ]); (refine' ch_skip rfl rfl (fun _ _ _ h => h) ?_; try simp only [List.getElem_toArray, List.getElem_cons_zero, List.getElem_cons_succ, Act.put, List.setIfInBounds_toArray, List.set_cons_zero, List.set_cons_succ]); (refine' ch_skip rfl rfl (fun _ _ _ h => h) ?_; try simp only [List.getElem_toArray, List.getElem_cons_zero, List.getElem_cons_succ, Act.put, List.setIfInBounds_toArray, List.set_cons_zero, List.set_cons_succ]); (refine' ch_skip rfl rfl (fun _ _ _ h => h) ?_; try simp only [List.getElem_toArray, List.getElem_cons_zero, List.getElem_cons_succ, Act.put, List.setIfInBounds_toArray, List.set_cons_zero, List.set_cons_succ]); (refine' ch_skip rfl rfl (fun _ _ _ h => h) ?_; try simp only [List.getElem_toArray, List.getElem_cons_zero, List.getElem_cons_succ, Act.put, List.setIfInBounds_toArray, List.set_cons_zero, List.set_cons_succ]); (refine' ch_skip rfl rfl (fun _ _ _ h => h) ?_; try simp only [List.getElem_toArray, List.getElem_cons_zero, List.getElem_cons_succ, Act.put, List.setIfInBounds_toArray, List.set_cons_zero, List.set_cons_succ]); (refine' ch_skip rfl rfl (fun _ _ _ h => h) ?_; try simp only [List.getElem_toArray, List.getElem_cons_zero, List.getElem_cons_succ, Act.put, List.setIfInBounds_toArray, List.set_cons_zero, List.set_cons_succ]); (refine' ch_skip rfl rfl (fun _ _ _ h => h) ?_; try simp only [List.getElem_toArray, List.getElem_cons_zero, List.getElem_cons_succ, Act.put, List.setIfInBounds_toArray, List.set_cons_zero, List.set_cons_succ])
              (refine' ch_val ?po78 ?pw78 ?pr78 ?pq78 ?ph78; (case' po78 => exact rfl); (case' pw78 => rfl); (case' pq78 => (exact fun _ _ _ h => h)); (case' pr78 => (intro w' hw'; go_simp; with_reducible rfl)); (case' ph78 => (try simp only [List.getElem_toArray, List.getElem_cons_zero, List.getElem_cons_succ, Act.put, List.setIfInBounds_toArray, List.set_cons_zero, List.set_cons_succ]))); (refine' ch_val ?po79 ?pw79 ?pr79 ?pq79 ?ph79; (case' po79 => exact rfl); (case' pw79 => rfl); (case' pq79 => (exact fun _ _ _ h => h)); (case' pr79 => (intro w' hw'; go_simp; with_reducible rfl)); (case' ph79 => (try simp only [List.getElem_toArray, List.getElem_cons_zero, List.getElem_cons_succ, Act.put, List.setIfInBounds_toArray, List.set_cons_zero, List.set_cons_succ])))
              (refine' ch_skip rfl rfl (fun _ _ _ h => h) ?_; try simp only [List.getElem_toArray, List.getElem_cons_zero, List.getElem_cons_succ, Act.put, List.setIfInBounds_toArray, List.set_cons_zero, List.set_cons_succ]); (refine' ch_skip rfl rfl (fun _ _ _ h => h) ?_; try simp only [List.getElem_toArray, List.getElem_cons_zero, List.getElem_cons_succ, Act.put, List.setIfInBounds_toArray, List.set_cons_zero, List.set_cons_succ]); (refine' ch_skip rfl rfl (fun _ _ _ h => h) ?_; try simp only [List.getElem_toArray, List.getElem_cons_zero, List.getElem_cons_succ, Act.put, List.setIfInBounds_toArray, List.set_cons_zero, List.set_cons_succ]); (refine' ch_skip rfl rfl (fun _ _ _ h => h) ?_; try simp only [List.getElem_toArray, List.getElem_cons_zero, List.getElem_cons_succ, Act.put, List.setIfInBounds_toArray, List.set_cons_zero, List.set_cons_succ]); (refine' ch_skip rfl rfl (fun _ _ _ h => h) ?_; try simp only [List.getElem_toArray, List.getElem_cons_zero, List.getElem_cons_succ, Act.put, List.setIfInBounds_toArray, List.set_cons_zero, List.set_cons_succ]); (refine' ch_skip rfl rfl (fun _ _ _ h => h) ?_; try simp only [List.getElem_toArray, List.getElem_cons_zero, List.getElem_cons_succ, Act.put, List.setIfInBounds_toArray, List.set_cons_zero, List.set_cons_succ]); (refine' ch_skip rfl rfl (fun _ _ _ h => h) ?_; try simp only [List.getElem_toArray, List.getElem_cons_zero, List.getElem_cons_succ, Act.put, List.setIfInBounds_toArray, List.set_cons_zero, List.set_cons_succ]); (refine' ch_skip rfl rfl (fun _ _ _ h => h) ?_; try simp only [List.getElem_toArray, List.getElem_cons_zero, List.getElem_cons_succ, Act.put, List.setIfInBounds_toArray, List.set_cons_zero, List.set_cons_succ]); (refine' ch_skip rfl rfl (fun _ _ _ h => h) ?_; try simp only [List.getElem_toArray, List.getElem_cons_zero, List.getElem_cons_succ, Act.put, List.setIfInBounds_toArray, List.set_cons_zero, List.set_cons_succ]); (refine' ch_skip rfl rfl (fun _ _ _ h => h) ?_; try simp only [List.getElem_toArray, List.getElem_cons_zero, List.getElem_cons_succ, Act.put, List.setIfInBounds_toArray, List.set_cons_zero, List.set_cons_succ]); (refine' ch_skip rfl rfl (fun _ _ _ h => h) ?_; try simp only [List.getElem_toArray, List.getElem_cons_zero, List.getElem_cons_succ, Act.put, List.setIfInBounds_toArray, List.set_cons_zero, List.set_cons_succ]); (refine' ch_skip rfl rfl (fun _ _ _ h => h) ?_; try simp only [List.getElem_toArray, List.getElem_cons_zero, List.getElem_cons_succ, Act.put, List.setIfInBounds_toArray, List.set_cons_zero, List.set_cons_succ]); (refine' ch_skip rfl rfl (fun _ _ _ h => h) ?_; try simp only [List.getElem_toArray, List.getElem_cons_zero, List.getElem_cons_succ, Act.put, List.setIfInBounds_toArray, List.set_cons_zero, List.set_cons_succ]); (refine' ch_skip rfl rfl (fun _ _ _ h => h) ?_; try simp only [List.getElem_toArray, List.getElem_cons_zero, List.getElem_cons_succ, Act.put, List.setIfInBounds_toArray, List.set_cons_zero, List.set_cons_succ]); (refine' ch_skip rfl rfl (fun _ _ _ h => h) ?_; try simp only [List.getElem_toArray, List.getElem_cons_zero, List.getElem_cons_succ, Act.put, List.setIfInBounds_toArray, List.set_cons_zero, List.set_cons_succ]); (refine' ch_skip rfl rfl (fun _ _ _ h => h) ?_; try simp only [List.getElem_toArray, List.getElem_cons_zero, List.getElem_cons_succ, Act.put, List.setIfInBounds_toArray, List.set_cons_zero, List.set_cons_succ]); (refine' ch_skip rfl rfl (fun _ _ _ h => h) ?_; try simp only [List.getElem_toArray, List.getElem_cons_zero, List.getElem_cons_succ, Act.put, List.setIfInBounds_toArray, List.set_cons_zero, List.set_cons_succ]); (refine' ch_skip rfl rfl (fun _ _ _ h => h) ?_; try simp only [List.getElem_toArray, List.getElem_cons_zero, List.getElem_cons_succ, Act.put, List.setIfInBounds_toArray, List.set_cons_zero, List.set_cons_succ])
              (refine' ch_val ?po80 ?pw80 ?pr80 ?pq80 ?ph80; (case' po80 => exact rfl); (case' pw80 => rfl); (case' pq80 => (exact fun _ _ _ h => h)); (case' pr80 => (intro w' hw'; go_simp; with_reducible rfl)); (case' ph80 => (try simp only [List.getElem_toArray, List.getElem_cons_zero, List.getElem_cons_succ, Act.put, List.setIfInBounds_toArray, List.set_cons_zero, List.set_cons_succ]))); (refine' ch_val ?po81 ?pw81 ?pr81 ?pq81 ?ph81; (case' po81 => exact rfl); (case' pw81 => rfl); (case' pq81 => (exact fun _ _ _ h => h)); (case' pr81 => (intro w' hw'; go_simp; with_reducible rfl)); (case' ph81 => (try simp only [List.getElem_toArray, List.getElem_cons_zero, List.getElem_cons_succ, Act.put, List.setIfInBounds_toArray, List.set_cons_zero, List.set_cons_succ])))
              refine ch_nil ?_
              refine ⟨⟨by rw [hF]; exact ⟨rfl, rfl, rfl, rfl, rfl, rfl, rfl, rfl, rfl, rfl⟩, ?_⟩, HG.out⟩
              first
                | rfl
                | (rw [HKP.out]; rfl)
                | (rw [HKP.out]; exact congrArg Value.bool (decide_eq_decide.2 (by omega)))
          · obtain rfl : i = n := by omega
            have HKP := hid (show Dif.keepD ByteArray.empty xs ys i j = false by unfold Dif.keepD; rw [HN.out, HM.out]; simp)
            refine wp_region_chain (fun W => W.heap[g10]? = some (.cells #[.int .i64 (j : Int)] 3 (0, 0)) ∧ TabAt W o r (i + 1) (m + 1) (Dif.kAt xs ys)) [(0, true), (1, true), (2, true), (3, true), (4, true), (5, true), (6, true), (7, true), (8, true), (9, true), (10, true), (11, true), (12, true), (13, true), (14, true), (15, true), (16, true), (17, true), (18, true), (19, true), (20, true), (21, true), (22, true), (23, true), (24, true), (25, true), (26, true), (27, true), (28, true), (29, true), (30, true), (31, true), (32, true), (33, true), (34, true), (35, true), (36, true), (37, true), (38, true), (39, true), (40, true), (41, true)] rfl (by kernel_rfl) rfl (by kernel_rfl) ?_
            intro wc4 hb
            replace HC := hid (HC.out.grow hb)
            replace HTB := hid (HTB.out.grow hb)
            replace HG := hid (Grow.trans HG.out hb)
            clear hb
            refine ⟨⟨HC.out.c10, HTB.out⟩, ?_⟩
            (refine' ch_val ?po82 ?pw82 ?pr82 ?pq82 ?ph82; (case' po82 => exact rfl); (case' pw82 => rfl); (case' pq82 => (exact fun _ _ _ h => h)); (case' pr82 => (intro w' hw'; go_simp; with_reducible rfl)); (case' ph82 => (try simp only [List.getElem_toArray, List.getElem_cons_zero, List.getElem_cons_succ, Act.put, List.setIfInBounds_toArray, List.set_cons_zero, List.set_cons_succ]))); (refine' ch_val ?po83 ?pw83 ?pr83 ?pq83 ?ph83; (case' po83 => exact rfl); (case' pw83 => rfl); (case' pq83 => (exact fun _ _ _ h => h)); (case' pr83 => (intro w' hw'; go_simp; with_reducible rfl)); (case' ph83 => (try simp only [List.getElem_toArray, List.getElem_cons_zero, List.getElem_cons_succ, Act.put, List.setIfInBounds_toArray, List.set_cons_zero, List.set_cons_succ]))); (refine' ch_val ?po84 ?pw84 ?pr84 ?pq84 ?ph84; (case' po84 => exact rfl); (case' pw84 => rfl); (case' pq84 => (exact fun _ _ _ h => h)); (case' pr84 => (intro w' hw'; go_simp; with_reducible rfl)); (case' ph84 => (try simp only [List.getElem_toArray, List.getElem_cons_zero, List.getElem_cons_succ, Act.put, List.setIfInBounds_toArray, List.set_cons_zero, List.set_cons_succ]))); (refine' ch_val ?po85 ?pw85 ?pr85 ?pq85 ?ph85; (case' po85 => exact rfl); (case' pw85 => rfl); (case' pq85 => (exact fun _ _ _ h => h)); (case' pr85 => (intro w' hw'; go_simp; with_reducible rfl)); (case' ph85 => (try simp only [List.getElem_toArray, List.getElem_cons_zero, List.getElem_cons_succ, Act.put, List.setIfInBounds_toArray, List.set_cons_zero, List.set_cons_succ]))); (refine' ch_val ?po86 ?pw86 ?pr86 ?pq86 ?ph86; (case' po86 => exact rfl); (case' pw86 => rfl); (case' pq86 => (exact fun _ _ _ h => h)); (case' pr86 => (intro w' hw'; go_simp; with_reducible rfl)); (case' ph86 => (try simp only [List.getElem_toArray, List.getElem_cons_zero, List.getElem_cons_succ, Act.put, List.setIfInBounds_toArray, List.set_cons_zero, List.set_cons_succ])))
            (refine' ch_skip rfl rfl (fun _ _ _ h => h) ?_; try simp only [List.getElem_toArray, List.getElem_cons_zero, List.getElem_cons_succ, Act.put, List.setIfInBounds_toArray, List.set_cons_zero, List.set_cons_succ]); (refine' ch_skip rfl rfl (fun _ _ _ h => h) ?_; try simp only [List.getElem_toArray, List.getElem_cons_zero, List.getElem_cons_succ, Act.put, List.setIfInBounds_toArray, List.set_cons_zero, List.set_cons_succ]); (refine' ch_skip rfl rfl (fun _ _ _ h => h) ?_; try simp only [List.getElem_toArray, List.getElem_cons_zero, List.getElem_cons_succ, Act.put, List.setIfInBounds_toArray, List.set_cons_zero, List.set_cons_succ]); (refine' ch_skip rfl rfl (fun _ _ _ h => h) ?_; try simp only [List.getElem_toArray, List.getElem_cons_zero, List.getElem_cons_succ, Act.put, List.setIfInBounds_toArray, List.set_cons_zero, List.set_cons_succ])
            (refine' ch_val ?po87 ?pw87 ?pr87 ?pq87 ?ph87; (case' po87 => exact rfl); (case' pw87 => rfl); (case' pq87 => (exact fun _ _ _ h => h)); (case' pr87 => (intro w' hw'; go_simp; with_reducible rfl)); (case' ph87 => (try simp only [List.getElem_toArray, List.getElem_cons_zero, List.getElem_cons_succ, Act.put, List.setIfInBounds_toArray, List.set_cons_zero, List.set_cons_succ]))); (refine' ch_val ?po88 ?pw88 ?pr88 ?pq88 ?ph88; (case' po88 => exact rfl); (case' pw88 => rfl); (case' pq88 => (exact fun _ _ _ h => h)); (case' pr88 => (intro w' hw'; go_simp; with_reducible rfl)); (case' ph88 => (try simp only [List.getElem_toArray, List.getElem_cons_zero, List.getElem_cons_succ, Act.put, List.setIfInBounds_toArray, List.set_cons_zero, List.set_cons_succ])))
            (refine' ch_skip rfl rfl (fun _ _ _ h => h) ?_; try simp only [List.getElem_toArray, List.getElem_cons_zero, List.getElem_cons_succ, Act.put, List.setIfInBounds_toArray, List.set_cons_zero, List.set_cons_succ]); (refine' ch_skip rfl rfl (fun _ _ _ h => h) ?_; try simp only [List.getElem_toArray, List.getElem_cons_zero, List.getElem_cons_succ, Act.put, List.setIfInBounds_toArray, List.set_cons_zero, List.set_cons_succ]); (refine' ch_skip rfl rfl (fun _ _ _ h => h) ?_; try simp only [List.getElem_toArray, List.getElem_cons_zero, List.getElem_cons_succ, Act.put, List.setIfInBounds_toArray, List.set_cons_zero, List.set_cons_succ]); (refine' ch_skip rfl rfl (fun _ _ _ h => h) ?_; try simp only [List.getElem_toArray, List.getElem_cons_zero, List.getElem_cons_succ, Act.put, List.setIfInBounds_toArray, List.set_cons_zero, List.set_cons_succ]); (refine' ch_skip rfl rfl (fun _ _ _ h => h) ?_; try simp only [List.getElem_toArray, List.getElem_cons_zero, List.getElem_cons_succ, Act.put, List.setIfInBounds_toArray, List.set_cons_zero, List.set_cons_succ]); (refine' ch_skip rfl rfl (fun _ _ _ h => h) ?_; try simp only [List.getElem_toArray, List.getElem_cons_zero, List.getElem_cons_succ, Act.put, List.setIfInBounds_toArray, List.set_cons_zero, List.set_cons_succ]); (refine' ch_skip rfl rfl (fun _ _ _ h => h) ?_; try simp only [List.getElem_toArray, List.getElem_cons_zero, List.getElem_cons_succ, Act.put, List.setIfInBounds_toArray, List.set_cons_zero, List.set_cons_succ]); (refine' ch_skip rfl rfl (fun _ _ _ h => h) ?_; try simp only [List.getElem_toArray, List.getElem_cons_zero, List.getElem_cons_succ, Act.put, List.setIfInBounds_toArray, List.set_cons_zero, List.set_cons_succ]); (refine' ch_skip rfl rfl (fun _ _ _ h => h) ?_; try simp only [List.getElem_toArray, List.getElem_cons_zero, List.getElem_cons_succ, Act.put, List.setIfInBounds_toArray, List.set_cons_zero, List.set_cons_succ])
            (refine' ch_val ?po89 ?pw89 ?pr89 ?pq89 ?ph89; (case' po89 => exact rfl); (case' pw89 => rfl); (case' pq89 => (exact fun _ _ _ h => h)); (case' pr89 => (intro w' hw'; go_simp; with_reducible rfl)); (case' ph89 => (try simp only [List.getElem_toArray, List.getElem_cons_zero, List.getElem_cons_succ, Act.put, List.setIfInBounds_toArray, List.set_cons_zero, List.set_cons_succ]))); (refine' ch_val ?po90 ?pw90 ?pr90 ?pq90 ?ph90; (case' po90 => exact rfl); (case' pw90 => rfl); (case' pq90 => (exact fun _ _ _ h => h)); (case' pr90 => (intro w' hw'; go_simp; with_reducible rfl)); (case' ph90 => (try simp only [List.getElem_toArray, List.getElem_cons_zero, List.getElem_cons_succ, Act.put, List.setIfInBounds_toArray, List.set_cons_zero, List.set_cons_succ])))
            (refine' ch_skip rfl rfl (fun _ _ _ h => h) ?_; try simp only [List.getElem_toArray, List.getElem_cons_zero, List.getElem_cons_succ, Act.put, List.setIfInBounds_toArray, List.set_cons_zero, List.set_cons_succ]); (refine' ch_skip rfl rfl (fun _ _ _ h => h) ?_; try simp only [List.getElem_toArray, List.getElem_cons_zero, List.getElem_cons_succ, Act.put, List.setIfInBounds_toArray, List.set_cons_zero, List.set_cons_succ]); (refine' ch_skip rfl rfl (fun _ _ _ h => h) ?_; try simp only [List.getElem_toArray, List.getElem_cons_zero, List.getElem_cons_succ, Act.put, List.setIfInBounds_toArray, List.set_cons_zero, List.set_cons_succ]); (refine' ch_skip rfl rfl (fun _ _ _ h => h) ?_; try simp only [List.getElem_toArray, List.getElem_cons_zero, List.getElem_cons_succ, Act.put, List.setIfInBounds_toArray, List.set_cons_zero, List.set_cons_succ]); (refine' ch_skip rfl rfl (fun _ _ _ h => h) ?_; try simp only [List.getElem_toArray, List.getElem_cons_zero, List.getElem_cons_succ, Act.put, List.setIfInBounds_toArray, List.set_cons_zero, List.set_cons_succ]); (refine' ch_skip rfl rfl (fun _ _ _ h => h) ?_; try simp only [List.getElem_toArray, List.getElem_cons_zero, List.getElem_cons_succ, Act.put, List.setIfInBounds_toArray, List.set_cons_zero, List.set_cons_succ]); (refine' ch_skip rfl rfl (fun _ _ _ h => h) ?_; try simp only [List.getElem_toArray, List.getElem_cons_zero, List.getElem_cons_succ, Act.put, List.setIfInBounds_toArray, List.set_cons_zero, List.set_cons_succ]); (refine' ch_skip rfl rfl (fun _ _ _ h => h) ?_; try simp only [List.getElem_toArray, List.getElem_cons_zero, List.getElem_cons_succ, Act.put, List.setIfInBounds_toArray, List.set_cons_zero, List.set_cons_succ]); (refine' ch_skip rfl rfl (fun _ _ _ h => h) ?_; try simp only [List.getElem_toArray, List.getElem_cons_zero, List.getElem_cons_succ, Act.put, List.setIfInBounds_toArray, List.set_cons_zero, List.set_cons_succ]); (refine' ch_skip rfl rfl (fun _ _ _ h => h) ?_; try simp only [List.getElem_toArray, List.getElem_cons_zero, List.getElem_cons_succ, Act.put, List.setIfInBounds_toArray, List.set_cons_zero, List.set_cons_succ]); (refine' ch_skip rfl rfl (fun _ _ _ h => h) ?_; try simp only [List.getElem_toArray, List.getElem_cons_zero, List.getElem_cons_succ, Act.put, List.setIfInBounds_toArray, List.set_cons_zero, List.set_cons_succ]); (refine' ch_skip rfl rfl (fun _ _ _ h => h) ?_; try simp only [List.getElem_toArray, List.getElem_cons_zero, List.getElem_cons_succ, Act.put, List.setIfInBounds_toArray, List.set_cons_zero, List.set_cons_succ]); (refine' ch_skip rfl rfl (fun _ _ _ h => h) ?_; try simp only [List.getElem_toArray, List.getElem_cons_zero, List.getElem_cons_succ, Act.put, List.setIfInBounds_toArray, List.set_cons_zero, List.set_cons_succ]); (refine' ch_skip rfl rfl (fun _ _ _ h => h) ?_; try simp only [List.getElem_toArray, List.getElem_cons_zero, List.getElem_cons_succ, Act.put, List.setIfInBounds_toArray, List.set_cons_zero, List.set_cons_succ]); (refine' ch_skip rfl rfl (fun _ _ _ h => h) ?_; try simp only [List.getElem_toArray, List.getElem_cons_zero, List.getElem_cons_succ, Act.put, List.setIfInBounds_toArray, List.set_cons_zero, List.set_cons_succ]); (refine' ch_skip rfl rfl (fun _ _ _ h => h) ?_; try simp only [List.getElem_toArray, List.getElem_cons_zero, List.getElem_cons_succ, Act.put, List.setIfInBounds_toArray, List.set_cons_zero, List.set_cons_succ]); (refine' ch_skip rfl rfl (fun _ _ _ h => h) ?_; try simp only [List.getElem_toArray, List.getElem_cons_zero, List.getElem_cons_succ, Act.put, List.setIfInBounds_toArray, List.set_cons_zero, List.set_cons_succ]); (refine' ch_skip rfl rfl (fun _ _ _ h => h) ?_; try simp only [List.getElem_toArray, List.getElem_cons_zero, List.getElem_cons_succ, Act.put, List.setIfInBounds_toArray, List.set_cons_zero, List.set_cons_succ])
            (refine' ch_val ?po91 ?pw91 ?pr91 ?pq91 ?ph91; (case' po91 => exact rfl); (case' pw91 => rfl); (case' pq91 => (exact fun _ _ _ h => h)); (case' pr91 => (intro w' hw'; go_simp; with_reducible rfl)); (case' ph91 => (try simp only [List.getElem_toArray, List.getElem_cons_zero, List.getElem_cons_succ, Act.put, List.setIfInBounds_toArray, List.set_cons_zero, List.set_cons_succ]))); (refine' ch_val ?po92 ?pw92 ?pr92 ?pq92 ?ph92; (case' po92 => exact rfl); (case' pw92 => rfl); (case' pq92 => (exact fun _ _ _ h => h)); (case' pr92 => (intro w' hw'; go_simp; with_reducible rfl)); (case' ph92 => (try simp only [List.getElem_toArray, List.getElem_cons_zero, List.getElem_cons_succ, Act.put, List.setIfInBounds_toArray, List.set_cons_zero, List.set_cons_succ])))
            refine ch_nil ?_
            refine ⟨⟨by rw [hF]; exact ⟨rfl, rfl, rfl, rfl, rfl, rfl, rfl, rfl, rfl, rfl⟩, ?_⟩, HG.out⟩
            first
              | rfl
              | (rw [HKP.out]; rfl)
              | (rw [HKP.out]; exact congrArg Value.bool (decide_eq_decide.2 (by omega)))
        case rest =>
          clear hc10 HTB HG
          rintro ⟨T, D⟩ wr ⟨⟨hf, e49⟩, hg⟩
          rw [hF] at hf
          obtain ⟨hD, hT, e0, e1, e6, e7, e8, e10, e11, e9⟩ := hf
          simp only at e49
          simp only at hD hT e0 e1 e6 e7 e8 e9 e10 e11 e49
          subst hD
          obtain ⟨U, hU, hUk⟩ := frame143 T hT
          rw [hUk] at e0 e1 e6 e7 e8 e9 e10 e11 e49
          rw [e0, e1, e6, e7, e8, e9, e10, e11, e49] at hU
          subst hU
          clear hT e0 e1 e6 e7 e8 e9 e10 e11 e49 hUk
          replace HS := hid (HS.out.grow hg)
          replace HC := hid (HC.out.grow hg)
          replace HW := hid (Grow.trans HW.out hg)
          clear hg
          refine into_K (by assumption) ?_
          have hwz : w.heap.size ≤ wr.heap.size := HW.out.size
          by_cases hkp : Dif.keepD ByteArray.empty xs ys i j = true
          · rw [hkp]
            have HE := hid (show Dif.stD ByteArray.empty xs ys (k + 1) = ⟨i + 1, j + 1, Dif.DSt.out ⟨i, j, fin, now⟩, none⟩ by
              rw [HST.out]
              unfold Dif.stepD
              rw [if_neg (by simp only [Dif.doneD, decide_eq_true_eq, HN.out, HM.out]; have := HND.out; omega), if_pos hkp]
              rfl)
            have hlt : i < n ∧ j < m := by
              simp only [Dif.keepD, decide_eq_true_eq, HN.out, HM.out] at hkp
              exact ⟨hkp.1, hkp.2.1⟩
            have HLT := hid hlt
            have HOO := hid (show Dif.DSt.out (⟨i + 1, j + 1, Dif.DSt.out ⟨i, j, fin, now⟩, none⟩ : Dif.DSt ByteArray) = Dif.DSt.out ⟨i, j, fin, now⟩ by simp [Dif.DSt.out])
            clear hkp hlt HST
            have wa : IntKind.i64.wrap ((i : Int) + 1) = (i : Int) + 1 := by simp [IntKind.wrap, IntKind.signed, IntKind.bits]; omega
            have wb : IntKind.i64.wrap ((j : Int) + 1) = (j : Int) + 1 := by simp [IntKind.wrap, IntKind.signed, IntKind.bits]; omega
            go_wp2_with fail
            refine wp_region_floatG (fun W => W.heap[g10]? = some (.cells #[.int .i64 (j : Int)] 3 (0, 0))) [0,1,2,3,4] [] [5,6] rfl (by kernel_rfl) rfl (by kernel_rfl) (by kernel_rfl) ?_
            intro wf5 hb
            replace HS := hid (HS.out.grow hb)
            replace HC := hid (HC.out.grow hb)
            replace HW := hid (Grow.trans HW.out hb)
            clear hb
            refine ⟨HC.out.c10, ?_⟩
            (refine' pickT_val ?po93 ?pw93 ?pr93 ?pq93 ?ph93; (case' po93 => exact rfl); (case' pw93 => rfl); (case' pq93 => (exact fun _ _ _ h => h)); (case' pr93 => (intro w' hw'; go_simp; with_reducible rfl)); (case' ph93 => (try simp only [List.getElem_toArray, List.getElem_cons_zero, List.getElem_cons_succ, Act.put, List.setIfInBounds_toArray, List.set_cons_zero, List.set_cons_succ]))); (refine' pickT_val ?po94 ?pw94 ?pr94 ?pq94 ?ph94; (case' po94 => exact rfl); (case' pw94 => rfl); (case' pq94 => (exact fun _ _ _ h => h)); (case' pr94 => (intro w' hw'; go_simp; with_reducible rfl)); (case' ph94 => (try simp only [List.getElem_toArray, List.getElem_cons_zero, List.getElem_cons_succ, Act.put, List.setIfInBounds_toArray, List.set_cons_zero, List.set_cons_succ])))
            (refine' pickT_val (v := (.int .i64 (j : Int))) ?po95 ?pw95 ?pr95 ?pq95 ?ph95; (case' po95 => exact rfl); (case' pw95 => rfl); (case' pq95 => (exact fun _ _ _ h => h)); (case' pr95 => (intro w' hw'; exact run_opLoadC rfl rfl hw' rfl Try.underlying3 rfl)); (case' ph95 => (try simp only [List.getElem_toArray, List.getElem_cons_zero, List.getElem_cons_succ, Act.put, List.setIfInBounds_toArray, List.set_cons_zero, List.set_cons_succ])))
            (refine' pickT_val ?po96 ?pw96 ?pr96 ?pq96 ?ph96; (case' po96 => exact rfl); (case' pw96 => rfl); (case' pq96 => (exact fun _ _ _ h => h)); (case' pr96 => (intro w' hw'; go_simp; with_reducible rfl)); (case' ph96 => (try simp only [List.getElem_toArray, List.getElem_cons_zero, List.getElem_cons_succ, Act.put, List.setIfInBounds_toArray, List.set_cons_zero, List.set_cons_succ]))); (refine' pickT_val ?po97 ?pw97 ?pr97 ?pq97 ?ph97; (case' po97 => exact rfl); (case' pw97 => rfl); (case' pq97 => (exact fun _ _ _ h => h)); (case' pr97 => (intro w' hw'; go_simp; with_reducible rfl)); (case' ph97 => (try simp only [List.getElem_toArray, List.getElem_cons_zero, List.getElem_cons_succ, Act.put, List.setIfInBounds_toArray, List.set_cons_zero, List.set_cons_succ])))
            refine pickT_nil ?_
            refine seqT_nil ?_
            show wpList _ _ _ (_ :: _ :: []) _ _
            refine op_store1 (g := g10) (i := 0) (v := .int .i64 ((j + 1 : Nat) : Int)) rfl rfl rfl rfl (by first | rfl | (go_simp; rfl) | go_simp) HC.out.c10 rfl rfl infoIntS (by simp) ?_
            intro w5 hW hgr hbel
            obtain ⟨hs5, hc5⟩ := dofJ HS.out HC.out (j' := j + 1) (by simpa using hW) hgr
            have HW5 := hid (hbel _ _ HW.out HC.out.l10)
            have HC5 := hid hc5
            have HS5 := hid hs5
            clear hW hgr hbel hs5 hc5
            refine op_store1 (g := g8) (i := 0) (v := .bool false) rfl rfl rfl rfl rfl HC5.out.c8 rfl rfl infoBoolS (by simp) ?_
            intro w6 hW hgr hbel
            obtain ⟨hs6, hc6⟩ := dofOpen HS5.out HC5.out (b' := false) (by simpa using hW) hgr
            have HW6 := hid (hbel _ _ HW5.out HC5.out.l8)
            have HC6 := hid hc6
            have HS6 := hid hs6
            clear hW hgr hbel hs6 hc6 HS HC HW HW5 HC5 HS5
            refine wpList_nil ?_
            go_wp2_with fail
            refine hK _ _ (gk - 2) (by have := HZ.out; have := HLT.out; omega) ?_
            rw [hJ]
            refine ⟨k + 1, ov, hv, rfl, rfl, rfl, rfl, rfl, rfl, rfl, rfl, rfl, ?_, ?_, ?_, ?_, HW6⟩
            · rw [HE.out]; exact congrArg (Value.int .i64) (by show (i : Int) + 1 = ((i + 1 : Nat) : Int); omega)
            · rw [HE.out]; have := HZ.out; have := HLT.out; show gk - 2 + (i + 1 + (j + 1)) = n + m; omega
            · rw [HE.out, HOO.out]; exact HS6
            · rw [HE.out]; exact HC6
          · have hkf : Dif.keepD ByteArray.empty xs ys i j = false := by simpa using hkp
            rw [hkf]
            have HKF := hid hkp
            clear hkp hkf
            go_wp2_with fail
            have HTB := hid (show TabAt wr o r (n + 1) (m + 1) (Dif.kAt xs ys) by have := HC.out.tab; rwa [HN.out, HM.out] at this)
            have HG := hid (grow_refl wr)
            refine wp_cutJ (fun a' w' => (F a' ∧ a'.tmps.getD 95 undef = .bool (Dif.delD xs ys i j)) ∧ Grow wr w') ?r14 ?rest2
            case r14 =>
              clear HS HST HSK HZ hK HKF
              by_cases hjm : j < m
              · have hlt2 : (j : Int) < (m : Int) := by omega
                have hne : ((j : Int) == (m : Int)) = false := by simp; omega
                by_cases hin : i < n
                · have hlt : (i : Int) < (n : Int) := by omega
                  have HKP := hid (show Dif.delD xs ys i j = decide ((Dif.kAt xs ys i (j + 1) : Int) ≤ (Dif.kAt xs ys (i + 1) j : Int)) by unfold Dif.delD; rw [HN.out, HM.out]; exact decide_eq_decide.2 (by omega))
                  have wa : IntKind.i64.wrap ((i : Int) + 1) = (i : Int) + 1 := by simp [IntKind.wrap, IntKind.signed, IntKind.bits]; omega
                  have wb : IntKind.i64.wrap ((j : Int) + 1) = (j : Int) + 1 := by simp [IntKind.wrap, IntKind.signed, IntKind.bits]; omega
                  have ta : ((i : Int) + 1).toNat = i + 1 := by omega
                  have tb : ((j : Int) + 1).toNat = j + 1 := by omega
                  have a2 : (i : Int) < (n : Int) + 1 := by omega
                  have a3 : (i : Int) + 1 < (n : Int) + 1 := by omega
                  have a4 : (0 : Int) ≤ (i : Int) + 1 := by omega
                  have c2 : (j : Int) < (m : Int) + 1 := by omega
                  have c3 : (j : Int) + 1 < (m : Int) + 1 := by omega
                  have c4 : (0 : Int) ≤ (j : Int) + 1 := by omega
                  refine wp_region_chain (fun W => W.heap[g10]? = some (.cells #[.int .i64 (j : Int)] 3 (0, 0)) ∧ TabAt W o r (n + 1) (m + 1) (Dif.kAt xs ys)) [(0, true), (1, true), (2, true), (3, true), (4, true), (5, true), (6, true), (7, true), (8, true), (9, true), (10, true), (11, true), (12, true), (13, true), (14, true), (15, true), (16, true), (17, true), (18, true), (19, true), (20, true), (21, true), (22, true), (23, true), (24, true), (25, true), (26, true), (27, true), (28, true), (29, true)] rfl (by kernel_rfl) rfl (by kernel_rfl) ?_
                  intro wc6 hb
                  replace HC := hid (HC.out.grow hb)
                  replace HTB := hid (HTB.out.grow hb)
                  replace HG := hid (Grow.trans HG.out hb)
                  clear hb
                  refine ⟨⟨HC.out.c10, HTB.out⟩, ?_⟩
                  (refine' ch_val (v := (.int .i64 (j : Int))) ?po98 ?pw98 ?pr98 ?pq98 ?ph98; (case' po98 => exact rfl); (case' pw98 => rfl); (case' pq98 => (exact fun _ _ _ h => h)); (case' pr98 => (intro w' hw'; exact run_opLoadC rfl rfl hw'.1 rfl Try.underlying3 rfl)); (case' ph98 => (try simp only [List.getElem_toArray, List.getElem_cons_zero, List.getElem_cons_succ, Act.put, List.setIfInBounds_toArray, List.set_cons_zero, List.set_cons_succ])))
                  (refine' ch_val ?po99 ?pw99 ?pr99 ?pq99 ?ph99; (case' po99 => exact rfl); (case' pw99 => rfl); (case' pq99 => (exact fun _ _ _ h => h)); (case' pr99 => (intro w' hw'; go_simp; with_reducible rfl)); (case' ph99 => (try simp only [List.getElem_toArray, List.getElem_cons_zero, List.getElem_cons_succ, Act.put, List.setIfInBounds_toArray, List.set_cons_zero, List.set_cons_succ]))); (refine' ch_val ?po100 ?pw100 ?pr100 ?pq100 ?ph100; (case' po100 => exact rfl); (case' pw100 => rfl); (case' pq100 => (exact fun _ _ _ h => h)); (case' pr100 => (intro w' hw'; go_simp; with_reducible rfl)); (case' ph100 => (try simp only [List.getElem_toArray, List.getElem_cons_zero, List.getElem_cons_succ, Act.put, List.setIfInBounds_toArray, List.set_cons_zero, List.set_cons_succ]))); (refine' ch_val ?po101 ?pw101 ?pr101 ?pq101 ?ph101; (case' po101 => exact rfl); (case' pw101 => rfl); (case' pq101 => (exact fun _ _ _ h => h)); (case' pr101 => (intro w' hw'; go_simp; with_reducible rfl)); (case' ph101 => (try simp only [List.getElem_toArray, List.getElem_cons_zero, List.getElem_cons_succ, Act.put, List.setIfInBounds_toArray, List.set_cons_zero, List.set_cons_succ]))); (refine' ch_val ?po102 ?pw102 ?pr102 ?pq102 ?ph102; (case' po102 => exact rfl); (case' pw102 => rfl); (case' pq102 => (exact fun _ _ _ h => h)); (case' pr102 => (intro w' hw'; go_simp; with_reducible rfl)); (case' ph102 => (try simp only [List.getElem_toArray, List.getElem_cons_zero, List.getElem_cons_succ, Act.put, List.setIfInBounds_toArray, List.set_cons_zero, List.set_cons_succ]))); (refine' ch_val ?po103 ?pw103 ?pr103 ?pq103 ?ph103; (case' po103 => exact rfl); (case' pw103 => rfl); (case' pq103 => (exact fun _ _ _ h => h)); (case' pr103 => (intro w' hw'; go_simp; with_reducible rfl)); (case' ph103 => (try simp only [List.getElem_toArray, List.getElem_cons_zero, List.getElem_cons_succ, Act.put, List.setIfInBounds_toArray, List.set_cons_zero, List.set_cons_succ]))); (refine' ch_val ?po104 ?pw104 ?pr104 ?pq104 ?ph104; (case' po104 => exact rfl); (case' pw104 => rfl); (case' pq104 => (exact fun _ _ _ h => h)); (case' pr104 => (intro w' hw'; go_simp; with_reducible rfl)); (case' ph104 => (try simp only [List.getElem_toArray, List.getElem_cons_zero, List.getElem_cons_succ, Act.put, List.setIfInBounds_toArray, List.set_cons_zero, List.set_cons_succ]))); (refine' ch_val ?po105 ?pw105 ?pr105 ?pq105 ?ph105; (case' po105 => exact rfl); (case' pw105 => rfl); (case' pq105 => (exact fun _ _ _ h => h)); (case' pr105 => (intro w' hw'; go_simp; with_reducible rfl)); (case' ph105 => (try simp only [List.getElem_toArray, List.getElem_cons_zero, List.getElem_cons_succ, Act.put, List.setIfInBounds_toArray, List.set_cons_zero, List.set_cons_succ]))); (refine' ch_val ?po106 ?pw106 ?pr106 ?pq106 ?ph106; (case' po106 => exact rfl); (case' pw106 => rfl); (case' pq106 => (exact fun _ _ _ h => h)); (case' pr106 => (intro w' hw'; go_simp; with_reducible rfl)); (case' ph106 => (try simp only [List.getElem_toArray, List.getElem_cons_zero, List.getElem_cons_succ, Act.put, List.setIfInBounds_toArray, List.set_cons_zero, List.set_cons_succ]))); (refine' ch_val ?po107 ?pw107 ?pr107 ?pq107 ?ph107; (case' po107 => exact rfl); (case' pw107 => rfl); (case' pq107 => (exact fun _ _ _ h => h)); (case' pr107 => (intro w' hw'; go_simp; with_reducible rfl)); (case' ph107 => (try simp only [List.getElem_toArray, List.getElem_cons_zero, List.getElem_cons_succ, Act.put, List.setIfInBounds_toArray, List.set_cons_zero, List.set_cons_succ]))); (refine' ch_val ?po108 ?pw108 ?pr108 ?pq108 ?ph108; (case' po108 => exact rfl); (case' pw108 => rfl); (case' pq108 => (exact fun _ _ _ h => h)); (case' pr108 => (intro w' hw'; go_simp; with_reducible rfl)); (case' ph108 => (try simp only [List.getElem_toArray, List.getElem_cons_zero, List.getElem_cons_succ, Act.put, List.setIfInBounds_toArray, List.set_cons_zero, List.set_cons_succ]))); (refine' ch_val ?po109 ?pw109 ?pr109 ?pq109 ?ph109; (case' po109 => exact rfl); (case' pw109 => rfl); (case' pq109 => (exact fun _ _ _ h => h)); (case' pr109 => (intro w' hw'; go_simp; with_reducible rfl)); (case' ph109 => (try simp only [List.getElem_toArray, List.getElem_cons_zero, List.getElem_cons_succ, Act.put, List.setIfInBounds_toArray, List.set_cons_zero, List.set_cons_succ]))); (refine' ch_val ?po110 ?pw110 ?pr110 ?pq110 ?ph110; (case' po110 => exact rfl); (case' pw110 => rfl); (case' pq110 => (exact fun _ _ _ h => h)); (case' pr110 => (intro w' hw'; go_simp; with_reducible rfl)); (case' ph110 => (try simp only [List.getElem_toArray, List.getElem_cons_zero, List.getElem_cons_succ, Act.put, List.setIfInBounds_toArray, List.set_cons_zero, List.set_cons_succ]))); (refine' ch_val ?po111 ?pw111 ?pr111 ?pq111 ?ph111; (case' po111 => exact rfl); (case' pw111 => rfl); (case' pq111 => (exact fun _ _ _ h => h)); (case' pr111 => (intro w' hw'; go_simp; with_reducible rfl)); (case' ph111 => (try simp only [List.getElem_toArray, List.getElem_cons_zero, List.getElem_cons_succ, Act.put, List.setIfInBounds_toArray, List.set_cons_zero, List.set_cons_succ])))
                  (refine' ch_val (v := (.slice (some ⟨r (i + 1), 0, none⟩) (m + 1) (m + 1))) ?po112 ?pw112 ?pr112 ?pq112 ?ph112; (case' po112 => exact rfl); (case' pw112 => rfl); (case' pq112 => (exact fun _ _ _ h => h)); (case' pr112 => (intro w' hw'; exact run_opLoad1 rfl rfl (hw'.2.cellRow (show i + 1 < n + 1 by omega)) Try.underlying73 rfl)); (case' ph112 => (try simp only [List.getElem_toArray, List.getElem_cons_zero, List.getElem_cons_succ, Act.put, List.setIfInBounds_toArray, List.set_cons_zero, List.set_cons_succ])))
                  (refine' ch_val (v := (.int .i64 (j : Int))) ?po113 ?pw113 ?pr113 ?pq113 ?ph113; (case' po113 => exact rfl); (case' pw113 => rfl); (case' pq113 => (exact fun _ _ _ h => h)); (case' pr113 => (intro w' hw'; exact run_opLoadC rfl rfl hw'.1 rfl Try.underlying3 rfl)); (case' ph113 => (try simp only [List.getElem_toArray, List.getElem_cons_zero, List.getElem_cons_succ, Act.put, List.setIfInBounds_toArray, List.set_cons_zero, List.set_cons_succ])))
                  (refine' ch_val ?po114 ?pw114 ?pr114 ?pq114 ?ph114; (case' po114 => exact rfl); (case' pw114 => rfl); (case' pq114 => (exact fun _ _ _ h => h)); (case' pr114 => (intro w' hw'; go_simp; with_reducible rfl)); (case' ph114 => (try simp only [List.getElem_toArray, List.getElem_cons_zero, List.getElem_cons_succ, Act.put, List.setIfInBounds_toArray, List.set_cons_zero, List.set_cons_succ])))
                  (refine' ch_val (v := (.int .i64 (Dif.kAt xs ys (i + 1) (j) : Int))) ?po115 ?pw115 ?pr115 ?pq115 ?ph115; (case' po115 => exact rfl); (case' pw115 => rfl); (case' pq115 => (exact fun _ _ _ h => h)); (case' pr115 => (intro w' hw'; exact run_opLoad1 rfl rfl (hw'.2.cellVal (show i + 1 < n + 1 by omega) (show j < m + 1 by omega)) Try.underlying3 rfl)); (case' ph115 => (try simp only [List.getElem_toArray, List.getElem_cons_zero, List.getElem_cons_succ, Act.put, List.setIfInBounds_toArray, List.set_cons_zero, List.set_cons_succ])))
                  (refine' ch_val ?po116 ?pw116 ?pr116 ?pq116 ?ph116; (case' po116 => exact rfl); (case' pw116 => rfl); (case' pq116 => (exact fun _ _ _ h => h)); (case' pr116 => (intro w' hw'; go_simp; with_reducible rfl)); (case' ph116 => (try simp only [List.getElem_toArray, List.getElem_cons_zero, List.getElem_cons_succ, Act.put, List.setIfInBounds_toArray, List.set_cons_zero, List.set_cons_succ]))); (refine' ch_val ?po117 ?pw117 ?pr117 ?pq117 ?ph117; (case' po117 => exact rfl); (case' pw117 => rfl); (case' pq117 => (exact fun _ _ _ h => h)); (case' pr117 => (intro w' hw'; go_simp; with_reducible rfl)); (case' ph117 => (try simp only [List.getElem_toArray, List.getElem_cons_zero, List.getElem_cons_succ, Act.put, List.setIfInBounds_toArray, List.set_cons_zero, List.set_cons_succ]))); (refine' ch_val ?po118 ?pw118 ?pr118 ?pq118 ?ph118; (case' po118 => exact rfl); (case' pw118 => rfl); (case' pq118 => (exact fun _ _ _ h => h)); (case' pr118 => (intro w' hw'; go_simp; with_reducible rfl)); (case' ph118 => (try simp only [List.getElem_toArray, List.getElem_cons_zero, List.getElem_cons_succ, Act.put, List.setIfInBounds_toArray, List.set_cons_zero, List.set_cons_succ])))
                  (refine' ch_val (v := (.slice (some ⟨r (i), 0, none⟩) (m + 1) (m + 1))) ?po119 ?pw119 ?pr119 ?pq119 ?ph119; (case' po119 => exact rfl); (case' pw119 => rfl); (case' pq119 => (exact fun _ _ _ h => h)); (case' pr119 => (intro w' hw'; exact run_opLoad1 rfl rfl (hw'.2.cellRow (show i < n + 1 by omega)) Try.underlying73 rfl)); (case' ph119 => (try simp only [List.getElem_toArray, List.getElem_cons_zero, List.getElem_cons_succ, Act.put, List.setIfInBounds_toArray, List.set_cons_zero, List.set_cons_succ])))
                  (refine' ch_val (v := (.int .i64 (j : Int))) ?po120 ?pw120 ?pr120 ?pq120 ?ph120; (case' po120 => exact rfl); (case' pw120 => rfl); (case' pq120 => (exact fun _ _ _ h => h)); (case' pr120 => (intro w' hw'; exact run_opLoadC rfl rfl hw'.1 rfl Try.underlying3 rfl)); (case' ph120 => (try simp only [List.getElem_toArray, List.getElem_cons_zero, List.getElem_cons_succ, Act.put, List.setIfInBounds_toArray, List.set_cons_zero, List.set_cons_succ])))
                  (refine' ch_val ?po121 ?pw121 ?pr121 ?pq121 ?ph121; (case' po121 => exact rfl); (case' pw121 => rfl); (case' pq121 => (exact fun _ _ _ h => h)); (case' pr121 => (intro w' hw'; go_simp; with_reducible rfl)); (case' ph121 => (try simp only [List.getElem_toArray, List.getElem_cons_zero, List.getElem_cons_succ, Act.put, List.setIfInBounds_toArray, List.set_cons_zero, List.set_cons_succ]))); (refine' ch_val ?po122 ?pw122 ?pr122 ?pq122 ?ph122; (case' po122 => exact rfl); (case' pw122 => rfl); (case' pq122 => (exact fun _ _ _ h => h)); (case' pr122 => (intro w' hw'; go_simp; with_reducible rfl)); (case' ph122 => (try simp only [List.getElem_toArray, List.getElem_cons_zero, List.getElem_cons_succ, Act.put, List.setIfInBounds_toArray, List.set_cons_zero, List.set_cons_succ])))
                  (refine' ch_val (v := (.int .i64 (Dif.kAt xs ys (i) (j + 1) : Int))) ?po123 ?pw123 ?pr123 ?pq123 ?ph123; (case' po123 => exact rfl); (case' pw123 => rfl); (case' pq123 => (exact fun _ _ _ h => h)); (case' pr123 => (intro w' hw'; exact run_opLoad1 rfl rfl (hw'.2.cellVal (show i < n + 1 by omega) (show j + 1 < m + 1 by omega)) Try.underlying3 rfl)); (case' ph123 => (try simp only [List.getElem_toArray, List.getElem_cons_zero, List.getElem_cons_succ, Act.put, List.setIfInBounds_toArray, List.set_cons_zero, List.set_cons_succ])))
                  (refine' ch_val ?po124 ?pw124 ?pr124 ?pq124 ?ph124; (case' po124 => exact rfl); (case' pw124 => rfl); (case' pq124 => (exact fun _ _ _ h => h)); (case' pr124 => (intro w' hw'; go_simp; with_reducible rfl)); (case' ph124 => (try simp only [List.getElem_toArray, List.getElem_cons_zero, List.getElem_cons_succ, Act.put, List.setIfInBounds_toArray, List.set_cons_zero, List.set_cons_succ]))); (refine' ch_val ?po125 ?pw125 ?pr125 ?pq125 ?ph125; (case' po125 => exact rfl); (case' pw125 => rfl); (case' pq125 => (exact fun _ _ _ h => h)); (case' pr125 => (intro w' hw'; go_simp; with_reducible rfl)); (case' ph125 => (try simp only [List.getElem_toArray, List.getElem_cons_zero, List.getElem_cons_succ, Act.put, List.setIfInBounds_toArray, List.set_cons_zero, List.set_cons_succ]))); (refine' ch_val ?po126 ?pw126 ?pr126 ?pq126 ?ph126; (case' po126 => exact rfl); (case' pw126 => rfl); (case' pq126 => (exact fun _ _ _ h => h)); (case' pr126 => (intro w' hw'; go_simp; with_reducible rfl)); (case' ph126 => (try simp only [List.getElem_toArray, List.getElem_cons_zero, List.getElem_cons_succ, Act.put, List.setIfInBounds_toArray, List.set_cons_zero, List.set_cons_succ]))); (refine' ch_val ?po127 ?pw127 ?pr127 ?pq127 ?ph127; (case' po127 => exact rfl); (case' pw127 => rfl); (case' pq127 => (exact fun _ _ _ h => h)); (case' pr127 => (intro w' hw'; go_simp; with_reducible rfl)); (case' ph127 => (try simp only [List.getElem_toArray, List.getElem_cons_zero, List.getElem_cons_succ, Act.put, List.setIfInBounds_toArray, List.set_cons_zero, List.set_cons_succ])))
                  refine ch_nil ?_
                  refine ⟨⟨by rw [hF]; exact ⟨rfl, rfl, rfl, rfl, rfl, rfl, rfl, rfl, rfl, rfl⟩, ?_⟩, HG.out⟩
                  first
                    | rfl
                    | (rw [HKP.out]; rfl)
                    | (rw [HKP.out]; exact congrArg Value.bool (decide_eq_decide.2 (by omega)))
                · obtain rfl : i = n := by omega
                  have HKP := hid (show Dif.delD xs ys i j = false by unfold Dif.delD; rw [HN.out]; simp)
                  refine wp_region_chain (fun W => W.heap[g10]? = some (.cells #[.int .i64 (j : Int)] 3 (0, 0)) ∧ TabAt W o r (i + 1) (m + 1) (Dif.kAt xs ys)) [(0, true), (1, true), (2, true), (3, true), (4, true), (5, true), (6, true), (7, true), (8, true), (9, true), (10, true), (11, true), (12, true), (13, true), (14, true), (15, true), (16, true), (17, true), (18, true), (19, true), (20, true), (21, true), (22, true), (23, true), (24, true), (25, true), (26, true), (27, true), (28, true), (29, true)] rfl (by kernel_rfl) rfl (by kernel_rfl) ?_
                  intro wc7 hb
                  replace HC := hid (HC.out.grow hb)
                  replace HTB := hid (HTB.out.grow hb)
                  replace HG := hid (Grow.trans HG.out hb)
                  clear hb
                  refine ⟨⟨HC.out.c10, HTB.out⟩, ?_⟩
                  (refine' ch_val (v := (.int .i64 (j : Int))) ?po128 ?pw128 ?pr128 ?pq128 ?ph128; (case' po128 => exact rfl); (case' pw128 => rfl); (case' pq128 => (exact fun _ _ _ h => h)); (case' pr128 => (intro w' hw'; exact run_opLoadC rfl rfl hw'.1 rfl Try.underlying3 rfl)); (case' ph128 => (try simp only [List.getElem_toArray, List.getElem_cons_zero, List.getElem_cons_succ, Act.put, List.setIfInBounds_toArray, List.set_cons_zero, List.set_cons_succ])))
                  (refine' ch_val ?po129 ?pw129 ?pr129 ?pq129 ?ph129; (case' po129 => exact rfl); (case' pw129 => rfl); (case' pq129 => (exact fun _ _ _ h => h)); (case' pr129 => (intro w' hw'; go_simp; with_reducible rfl)); (case' ph129 => (try simp only [List.getElem_toArray, List.getElem_cons_zero, List.getElem_cons_succ, Act.put, List.setIfInBounds_toArray, List.set_cons_zero, List.set_cons_succ]))); (refine' ch_val ?po130 ?pw130 ?pr130 ?pq130 ?ph130; (case' po130 => exact rfl); (case' pw130 => rfl); (case' pq130 => (exact fun _ _ _ h => h)); (case' pr130 => (intro w' hw'; go_simp; with_reducible rfl)); (case' ph130 => (try simp only [List.getElem_toArray, List.getElem_cons_zero, List.getElem_cons_succ, Act.put, List.setIfInBounds_toArray, List.set_cons_zero, List.set_cons_succ]))); (refine' ch_val ?po131 ?pw131 ?pr131 ?pq131 ?ph131; (case' po131 => exact rfl); (case' pw131 => rfl); (case' pq131 => (exact fun _ _ _ h => h)); (case' pr131 => (intro w' hw'; go_simp; with_reducible rfl)); (case' ph131 => (try simp only [List.getElem_toArray, List.getElem_cons_zero, List.getElem_cons_succ, Act.put, List.setIfInBounds_toArray, List.set_cons_zero, List.set_cons_succ]))); (refine' ch_val ?po132 ?pw132 ?pr132 ?pq132 ?ph132; (case' po132 => exact rfl); (case' pw132 => rfl); (case' pq132 => (exact fun _ _ _ h => h)); (case' pr132 => (intro w' hw'; go_simp; with_reducible rfl)); (case' ph132 => (try simp only [List.getElem_toArray, List.getElem_cons_zero, List.getElem_cons_succ, Act.put, List.setIfInBounds_toArray, List.set_cons_zero, List.set_cons_succ]))); (refine' ch_val ?po133 ?pw133 ?pr133 ?pq133 ?ph133; (case' po133 => exact rfl); (case' pw133 => rfl); (case' pq133 => (exact fun _ _ _ h => h)); (case' pr133 => (intro w' hw'; go_simp; with_reducible rfl)); (case' ph133 => (try simp only [List.getElem_toArray, List.getElem_cons_zero, List.getElem_cons_succ, Act.put, List.setIfInBounds_toArray, List.set_cons_zero, List.set_cons_succ]))); (refine' ch_val ?po134 ?pw134 ?pr134 ?pq134 ?ph134; (case' po134 => exact rfl); (case' pw134 => rfl); (case' pq134 => (exact fun _ _ _ h => h)); (case' pr134 => (intro w' hw'; go_simp; with_reducible rfl)); (case' ph134 => (try simp only [List.getElem_toArray, List.getElem_cons_zero, List.getElem_cons_succ, Act.put, List.setIfInBounds_toArray, List.set_cons_zero, List.set_cons_succ]))); (refine' ch_val ?po135 ?pw135 ?pr135 ?pq135 ?ph135; (case' po135 => exact rfl); (case' pw135 => rfl); (case' pq135 => (exact fun _ _ _ h => h)); (case' pr135 => (intro w' hw'; go_simp; with_reducible rfl)); (case' ph135 => (try simp only [List.getElem_toArray, List.getElem_cons_zero, List.getElem_cons_succ, Act.put, List.setIfInBounds_toArray, List.set_cons_zero, List.set_cons_succ]))); (refine' ch_val ?po136 ?pw136 ?pr136 ?pq136 ?ph136; (case' po136 => exact rfl); (case' pw136 => rfl); (case' pq136 => (exact fun _ _ _ h => h)); (case' pr136 => (intro w' hw'; go_simp; with_reducible rfl)); (case' ph136 => (try simp only [List.getElem_toArray, List.getElem_cons_zero, List.getElem_cons_succ, Act.put, List.setIfInBounds_toArray, List.set_cons_zero, List.set_cons_succ]))); (refine' ch_val ?po137 ?pw137 ?pr137 ?pq137 ?ph137; (case' po137 => exact rfl); (case' pw137 => rfl); (case' pq137 => (exact fun _ _ _ h => h)); (case' pr137 => (intro w' hw'; go_simp; with_reducible rfl)); (case' ph137 => (try simp only [List.getElem_toArray, List.getElem_cons_zero, List.getElem_cons_succ, Act.put, List.setIfInBounds_toArray, List.set_cons_zero, List.set_cons_succ])))
                  (refine' ch_skip rfl rfl (fun _ _ _ h => h) ?_; try simp only [List.getElem_toArray, List.getElem_cons_zero, List.getElem_cons_succ, Act.put, List.setIfInBounds_toArray, List.set_cons_zero, List.set_cons_succ]); (refine' ch_skip rfl rfl (fun _ _ _ h => h) ?_; try simp only [List.getElem_toArray, List.getElem_cons_zero, List.getElem_cons_succ, Act.put, List.setIfInBounds_toArray, List.set_cons_zero, List.set_cons_succ]); (refine' ch_skip rfl rfl (fun _ _ _ h => h) ?_; try simp only [List.getElem_toArray, List.getElem_cons_zero, List.getElem_cons_succ, Act.put, List.setIfInBounds_toArray, List.set_cons_zero, List.set_cons_succ]); (refine' ch_skip rfl rfl (fun _ _ _ h => h) ?_; try simp only [List.getElem_toArray, List.getElem_cons_zero, List.getElem_cons_succ, Act.put, List.setIfInBounds_toArray, List.set_cons_zero, List.set_cons_succ]); (refine' ch_skip rfl rfl (fun _ _ _ h => h) ?_; try simp only [List.getElem_toArray, List.getElem_cons_zero, List.getElem_cons_succ, Act.put, List.setIfInBounds_toArray, List.set_cons_zero, List.set_cons_succ]); (refine' ch_skip rfl rfl (fun _ _ _ h => h) ?_; try simp only [List.getElem_toArray, List.getElem_cons_zero, List.getElem_cons_succ, Act.put, List.setIfInBounds_toArray, List.set_cons_zero, List.set_cons_succ]); (refine' ch_skip rfl rfl (fun _ _ _ h => h) ?_; try simp only [List.getElem_toArray, List.getElem_cons_zero, List.getElem_cons_succ, Act.put, List.setIfInBounds_toArray, List.set_cons_zero, List.set_cons_succ]); (refine' ch_skip rfl rfl (fun _ _ _ h => h) ?_; try simp only [List.getElem_toArray, List.getElem_cons_zero, List.getElem_cons_succ, Act.put, List.setIfInBounds_toArray, List.set_cons_zero, List.set_cons_succ]); (refine' ch_skip rfl rfl (fun _ _ _ h => h) ?_; try simp only [List.getElem_toArray, List.getElem_cons_zero, List.getElem_cons_succ, Act.put, List.setIfInBounds_toArray, List.set_cons_zero, List.set_cons_succ]); (refine' ch_skip rfl rfl (fun _ _ _ h => h) ?_; try simp only [List.getElem_toArray, List.getElem_cons_zero, List.getElem_cons_succ, Act.put, List.setIfInBounds_toArray, List.set_cons_zero, List.set_cons_succ]); (refine' ch_skip rfl rfl (fun _ _ _ h => h) ?_; try simp only [List.getElem_toArray, List.getElem_cons_zero, List.getElem_cons_succ, Act.put, List.setIfInBounds_toArray, List.set_cons_zero, List.set_cons_succ]); (refine' ch_skip rfl rfl (fun _ _ _ h => h) ?_; try simp only [List.getElem_toArray, List.getElem_cons_zero, List.getElem_cons_succ, Act.put, List.setIfInBounds_toArray, List.set_cons_zero, List.set_cons_succ]); (refine' ch_skip rfl rfl (fun _ _ _ h => h) ?_; try simp only [List.getElem_toArray, List.getElem_cons_zero, List.getElem_cons_succ, Act.put, List.setIfInBounds_toArray, List.set_cons_zero, List.set_cons_succ]); (refine' ch_skip rfl rfl (fun _ _ _ h => h) ?_; try simp only [List.getElem_toArray, List.getElem_cons_zero, List.getElem_cons_succ, Act.put, List.setIfInBounds_toArray, List.set_cons_zero, List.set_cons_succ]); (refine' ch_skip rfl rfl (fun _ _ _ h => h) ?_; try simp only [List.getElem_toArray, List.getElem_cons_zero, List.getElem_cons_succ, Act.put, List.setIfInBounds_toArray, List.set_cons_zero, List.set_cons_succ]); (refine' ch_skip rfl rfl (fun _ _ _ h => h) ?_; try simp only [List.getElem_toArray, List.getElem_cons_zero, List.getElem_cons_succ, Act.put, List.setIfInBounds_toArray, List.set_cons_zero, List.set_cons_succ]); (refine' ch_skip rfl rfl (fun _ _ _ h => h) ?_; try simp only [List.getElem_toArray, List.getElem_cons_zero, List.getElem_cons_succ, Act.put, List.setIfInBounds_toArray, List.set_cons_zero, List.set_cons_succ])
                  (refine' ch_val ?po138 ?pw138 ?pr138 ?pq138 ?ph138; (case' po138 => exact rfl); (case' pw138 => rfl); (case' pq138 => (exact fun _ _ _ h => h)); (case' pr138 => (intro w' hw'; go_simp; with_reducible rfl)); (case' ph138 => (try simp only [List.getElem_toArray, List.getElem_cons_zero, List.getElem_cons_succ, Act.put, List.setIfInBounds_toArray, List.set_cons_zero, List.set_cons_succ]))); (refine' ch_val ?po139 ?pw139 ?pr139 ?pq139 ?ph139; (case' po139 => exact rfl); (case' pw139 => rfl); (case' pq139 => (exact fun _ _ _ h => h)); (case' pr139 => (intro w' hw'; go_simp; with_reducible rfl)); (case' ph139 => (try simp only [List.getElem_toArray, List.getElem_cons_zero, List.getElem_cons_succ, Act.put, List.setIfInBounds_toArray, List.set_cons_zero, List.set_cons_succ]))); (refine' ch_val ?po140 ?pw140 ?pr140 ?pq140 ?ph140; (case' po140 => exact rfl); (case' pw140 => rfl); (case' pq140 => (exact fun _ _ _ h => h)); (case' pr140 => (intro w' hw'; go_simp; with_reducible rfl)); (case' ph140 => (try simp only [List.getElem_toArray, List.getElem_cons_zero, List.getElem_cons_succ, Act.put, List.setIfInBounds_toArray, List.set_cons_zero, List.set_cons_succ])))
                  refine ch_nil ?_
                  refine ⟨⟨by rw [hF]; exact ⟨rfl, rfl, rfl, rfl, rfl, rfl, rfl, rfl, rfl, rfl⟩, ?_⟩, HG.out⟩
                  first
                    | rfl
                    | (rw [HKP.out]; rfl)
                    | (rw [HKP.out]; exact congrArg Value.bool (decide_eq_decide.2 (by omega)))
              · obtain rfl : j = m := by omega
                have HKP := hid (show Dif.delD xs ys i j = true by unfold Dif.delD; rw [HN.out, HM.out]; have := HND.out; simp; omega)
                refine wp_region_chain (fun W => W.heap[g10]? = some (.cells #[.int .i64 (j : Int)] 3 (0, 0)) ∧ TabAt W o r (n + 1) (j + 1) (Dif.kAt xs ys)) [(0, true), (1, true), (2, true), (3, true), (4, true), (5, true), (6, true), (7, true), (8, true), (9, true), (10, true), (11, true), (12, true), (13, true), (14, true), (15, true), (16, true), (17, true), (18, true), (19, true), (20, true), (21, true), (22, true), (23, true), (24, true), (25, true), (26, true), (27, true), (28, true), (29, true)] rfl (by kernel_rfl) rfl (by kernel_rfl) ?_
                intro wc8 hb
                replace HC := hid (HC.out.grow hb)
                replace HTB := hid (HTB.out.grow hb)
                replace HG := hid (Grow.trans HG.out hb)
                clear hb
                refine ⟨⟨HC.out.c10, HTB.out⟩, ?_⟩
                (refine' ch_val (v := (.int .i64 (j : Int))) ?po141 ?pw141 ?pr141 ?pq141 ?ph141; (case' po141 => exact rfl); (case' pw141 => rfl); (case' pq141 => (exact fun _ _ _ h => h)); (case' pr141 => (intro w' hw'; exact run_opLoadC rfl rfl hw'.1 rfl Try.underlying3 rfl)); (case' ph141 => (try simp only [List.getElem_toArray, List.getElem_cons_zero, List.getElem_cons_succ, Act.put, List.setIfInBounds_toArray, List.set_cons_zero, List.set_cons_succ])))
                (refine' ch_val ?po142 ?pw142 ?pr142 ?pq142 ?ph142; (case' po142 => exact rfl); (case' pw142 => rfl); (case' pq142 => (exact fun _ _ _ h => h)); (case' pr142 => (intro w' hw'; go_simp; with_reducible rfl)); (case' ph142 => (try simp only [List.getElem_toArray, List.getElem_cons_zero, List.getElem_cons_succ, Act.put, List.setIfInBounds_toArray, List.set_cons_zero, List.set_cons_succ]))); (refine' ch_val ?po143 ?pw143 ?pr143 ?pq143 ?ph143; (case' po143 => exact rfl); (case' pw143 => rfl); (case' pq143 => (exact fun _ _ _ h => h)); (case' pr143 => (intro w' hw'; go_simp; with_reducible rfl)); (case' ph143 => (try simp only [List.getElem_toArray, List.getElem_cons_zero, List.getElem_cons_succ, Act.put, List.setIfInBounds_toArray, List.set_cons_zero, List.set_cons_succ]))); (refine' ch_val ?po144 ?pw144 ?pr144 ?pq144 ?ph144; (case' po144 => exact rfl); (case' pw144 => rfl); (case' pq144 => (exact fun _ _ _ h => h)); (case' pr144 => (intro w' hw'; go_simp; with_reducible rfl)); (case' ph144 => (try simp only [List.getElem_toArray, List.getElem_cons_zero, List.getElem_cons_succ, Act.put, List.setIfInBounds_toArray, List.set_cons_zero, List.set_cons_succ]))); (refine' ch_val ?po145 ?pw145 ?pr145 ?pq145 ?ph145; (case' po145 => exact rfl); (case' pw145 => rfl); (case' pq145 => (exact fun _ _ _ h => h)); (case' pr145 => (intro w' hw'; go_simp; with_reducible rfl)); (case' ph145 => (try simp only [List.getElem_toArray, List.getElem_cons_zero, List.getElem_cons_succ, Act.put, List.setIfInBounds_toArray, List.set_cons_zero, List.set_cons_succ])))
                (refine' ch_skip rfl rfl (fun _ _ _ h => h) ?_; try simp only [List.getElem_toArray, List.getElem_cons_zero, List.getElem_cons_succ, Act.put, List.setIfInBounds_toArray, List.set_cons_zero, List.set_cons_succ]); (refine' ch_skip rfl rfl (fun _ _ _ h => h) ?_; try simp only [List.getElem_toArray, List.getElem_cons_zero, List.getElem_cons_succ, Act.put, List.setIfInBounds_toArray, List.set_cons_zero, List.set_cons_succ]); (refine' ch_skip rfl rfl (fun _ _ _ h => h) ?_; try simp only [List.getElem_toArray, List.getElem_cons_zero, List.getElem_cons_succ, Act.put, List.setIfInBounds_toArray, List.set_cons_zero, List.set_cons_succ]); (refine' ch_skip rfl rfl (fun _ _ _ h => h) ?_; try simp only [List.getElem_toArray, List.getElem_cons_zero, List.getElem_cons_succ, Act.put, List.setIfInBounds_toArray, List.set_cons_zero, List.set_cons_succ]); (refine' ch_skip rfl rfl (fun _ _ _ h => h) ?_; try simp only [List.getElem_toArray, List.getElem_cons_zero, List.getElem_cons_succ, Act.put, List.setIfInBounds_toArray, List.set_cons_zero, List.set_cons_succ]); (refine' ch_skip rfl rfl (fun _ _ _ h => h) ?_; try simp only [List.getElem_toArray, List.getElem_cons_zero, List.getElem_cons_succ, Act.put, List.setIfInBounds_toArray, List.set_cons_zero, List.set_cons_succ]); (refine' ch_skip rfl rfl (fun _ _ _ h => h) ?_; try simp only [List.getElem_toArray, List.getElem_cons_zero, List.getElem_cons_succ, Act.put, List.setIfInBounds_toArray, List.set_cons_zero, List.set_cons_succ]); (refine' ch_skip rfl rfl (fun _ _ _ h => h) ?_; try simp only [List.getElem_toArray, List.getElem_cons_zero, List.getElem_cons_succ, Act.put, List.setIfInBounds_toArray, List.set_cons_zero, List.set_cons_succ]); (refine' ch_skip rfl rfl (fun _ _ _ h => h) ?_; try simp only [List.getElem_toArray, List.getElem_cons_zero, List.getElem_cons_succ, Act.put, List.setIfInBounds_toArray, List.set_cons_zero, List.set_cons_succ]); (refine' ch_skip rfl rfl (fun _ _ _ h => h) ?_; try simp only [List.getElem_toArray, List.getElem_cons_zero, List.getElem_cons_succ, Act.put, List.setIfInBounds_toArray, List.set_cons_zero, List.set_cons_succ]); (refine' ch_skip rfl rfl (fun _ _ _ h => h) ?_; try simp only [List.getElem_toArray, List.getElem_cons_zero, List.getElem_cons_succ, Act.put, List.setIfInBounds_toArray, List.set_cons_zero, List.set_cons_succ]); (refine' ch_skip rfl rfl (fun _ _ _ h => h) ?_; try simp only [List.getElem_toArray, List.getElem_cons_zero, List.getElem_cons_succ, Act.put, List.setIfInBounds_toArray, List.set_cons_zero, List.set_cons_succ]); (refine' ch_skip rfl rfl (fun _ _ _ h => h) ?_; try simp only [List.getElem_toArray, List.getElem_cons_zero, List.getElem_cons_succ, Act.put, List.setIfInBounds_toArray, List.set_cons_zero, List.set_cons_succ]); (refine' ch_skip rfl rfl (fun _ _ _ h => h) ?_; try simp only [List.getElem_toArray, List.getElem_cons_zero, List.getElem_cons_succ, Act.put, List.setIfInBounds_toArray, List.set_cons_zero, List.set_cons_succ]); (refine' ch_skip rfl rfl (fun _ _ _ h => h) ?_; try simp only [List.getElem_toArray, List.getElem_cons_zero, List.getElem_cons_succ, Act.put, List.setIfInBounds_toArray, List.set_cons_zero, List.set_cons_succ]); (refine' ch_skip rfl rfl (fun _ _ _ h => h) ?_; try simp only [List.getElem_toArray, List.getElem_cons_zero, List.getElem_cons_succ, Act.put, List.setIfInBounds_toArray, List.set_cons_zero, List.set_cons_succ]); (refine' ch_skip rfl rfl (fun _ _ _ h => h) ?_; try simp only [List.getElem_toArray, List.getElem_cons_zero, List.getElem_cons_succ, Act.put, List.setIfInBounds_toArray, List.set_cons_zero, List.set_cons_succ]); (refine' ch_skip rfl rfl (fun _ _ _ h => h) ?_; try simp only [List.getElem_toArray, List.getElem_cons_zero, List.getElem_cons_succ, Act.put, List.setIfInBounds_toArray, List.set_cons_zero, List.set_cons_succ]); (refine' ch_skip rfl rfl (fun _ _ _ h => h) ?_; try simp only [List.getElem_toArray, List.getElem_cons_zero, List.getElem_cons_succ, Act.put, List.setIfInBounds_toArray, List.set_cons_zero, List.set_cons_succ]); (refine' ch_skip rfl rfl (fun _ _ _ h => h) ?_; try simp only [List.getElem_toArray, List.getElem_cons_zero, List.getElem_cons_succ, Act.put, List.setIfInBounds_toArray, List.set_cons_zero, List.set_cons_succ]); (refine' ch_skip rfl rfl (fun _ _ _ h => h) ?_; try simp only [List.getElem_toArray, List.getElem_cons_zero, List.getElem_cons_succ, Act.put, List.setIfInBounds_toArray, List.set_cons_zero, List.set_cons_succ]); (refine' ch_skip rfl rfl (fun _ _ _ h => h) ?_; try simp only [List.getElem_toArray, List.getElem_cons_zero, List.getElem_cons_succ, Act.put, List.setIfInBounds_toArray, List.set_cons_zero, List.set_cons_succ]); (refine' ch_skip rfl rfl (fun _ _ _ h => h) ?_; try simp only [List.getElem_toArray, List.getElem_cons_zero, List.getElem_cons_succ, Act.put, List.setIfInBounds_toArray, List.set_cons_zero, List.set_cons_succ])
                (refine' ch_val ?po146 ?pw146 ?pr146 ?pq146 ?ph146; (case' po146 => exact rfl); (case' pw146 => rfl); (case' pq146 => (exact fun _ _ _ h => h)); (case' pr146 => (intro w' hw'; go_simp; with_reducible rfl)); (case' ph146 => (try simp only [List.getElem_toArray, List.getElem_cons_zero, List.getElem_cons_succ, Act.put, List.setIfInBounds_toArray, List.set_cons_zero, List.set_cons_succ]))); (refine' ch_val ?po147 ?pw147 ?pr147 ?pq147 ?ph147; (case' po147 => exact rfl); (case' pw147 => rfl); (case' pq147 => (exact fun _ _ _ h => h)); (case' pr147 => (intro w' hw'; go_simp; with_reducible rfl)); (case' ph147 => (try simp only [List.getElem_toArray, List.getElem_cons_zero, List.getElem_cons_succ, Act.put, List.setIfInBounds_toArray, List.set_cons_zero, List.set_cons_succ])))
                refine ch_nil ?_
                refine ⟨⟨by rw [hF]; exact ⟨rfl, rfl, rfl, rfl, rfl, rfl, rfl, rfl, rfl, rfl⟩, ?_⟩, HG.out⟩
                first
                  | rfl
                  | (rw [HKP.out]; rfl)
                  | (rw [HKP.out]; exact congrArg Value.bool (decide_eq_decide.2 (by omega)))
            case rest2 =>
              clear HTB HG
              rintro ⟨T, D⟩ wq ⟨⟨hf, e95⟩, hg⟩
              rw [hF] at hf
              obtain ⟨hD, hT, e0, e1, e6, e7, e8, e10, e11, e9⟩ := hf
              simp only at e95
              simp only at hD hT e0 e1 e6 e7 e8 e9 e10 e11 e95
              subst hD
              obtain ⟨U, hU, hUk⟩ := frame143 T hT
              rw [hUk] at e0 e1 e6 e7 e8 e9 e10 e11 e95
              rw [e0, e1, e6, e7, e8, e9, e10, e11, e95] at hU
              subst hU
              clear hT e0 e1 e6 e7 e8 e9 e10 e11 e95 hUk
              replace HS := hid (HS.out.grow hg)
              replace HC := hid (HC.out.grow hg)
              replace HW := hid (Grow.trans HW.out hg)
              clear hg
              refine into_K (by assumption) ?_
              have HBW := hid (show w.heap.size ≤ wq.heap.size from HW.out.size)
              have HGA := hid (growAny g8 g7 g10 o w.heap.size r xs ys ov hv ⟨i, j, fin, now⟩ wq HS.out HC.out HBW.out HBD.out.1)
              clear HS HC hwz
              have wa : IntKind.i64.wrap ((i : Int) + 1) = (i : Int) + 1 := by simp [IntKind.wrap, IntKind.signed, IntKind.bits]; omega
              have wb : IntKind.i64.wrap ((j : Int) + 1) = (j : Int) + 1 := by simp [IntKind.wrap, IntKind.signed, IntKind.bits]; omega
              by_cases hdl : Dif.delD xs ys i j = true
              · rw [hdl]
                have HE := hid (show Dif.stD ByteArray.empty xs ys (k + 1) = ⟨i + 1, j, fin, some ⟨(Dif.DSt.hk ⟨i, j, fin, now⟩).pos, (Dif.DSt.hk ⟨i, j, fin, now⟩).old ++ [xs.getD i ByteArray.empty], (Dif.DSt.hk ⟨i, j, fin, now⟩).new⟩⟩ by
                  rw [HST.out]
                  unfold Dif.stepD
                  rw [if_neg (by simp only [Dif.doneD, decide_eq_true_eq, HN.out, HM.out]; have := HND.out; omega), if_neg HKF.out, if_pos hdl]
                  rfl)
                have hin : i < n := by
                  simp only [Dif.delD, decide_eq_true_eq, HN.out] at hdl
                  exact hdl.1
                have hlt : (i : Int) < (n : Int) := by omega
                clear hdl HST HKF
                go_wp2_with fail
                refine HGA.out.mono ?_
                rintro _ w4 ⟨gb, c', hv1, q1, rfl, hs4, hc4, hb4⟩
                obtain ⟨cur, l1, l2, l3, l4, l5⟩ := hs4.lastCells
                have HS := hid hs4
                have HC := hid hc4
                replace HW := hid (Below.trans (show Below w.heap.size w wq from HW.out) hb4)
                have HBW4 := hid (Nat.le_trans HBW.out hb4.size)
                have HGB := hid l1
                have HL3 := hid l3
                have HL5 := hid l5
                have HLB := hid l2
                clear hs4 hc4 hb4 l1 l2 l3 l4 l5 HGA HBW
                obtain ⟨ad, rfl, hc0⟩ := HX.out.at_ i (by rw [HN.out]; exact hin)
                have HX0 := hid hc0
                clear hc0
                have HXC := hid (grow_cell HX0.out HW.out)
                generalize xs.getD i ByteArray.empty = x at *
                have HHB := hid (show (Dif.DSt.hk ⟨i, j, fin, now⟩).old.length ≤ 100000 ∧ (Dif.DSt.hk ⟨i, j, fin, now⟩).new.length ≤ 100000 from HBD.out.2)
                generalize Dif.DSt.hk ⟨i, j, fin, now⟩ = hk at *
                go_wp2_with fail
                refine wp_region_floatG (fun W => W.heap[gb]? = some (.cells cur 77 (0, 0)) ∧ W.cell? (ad.add i) = some (.string x)) [0,1,2,3,4,5,6,7,8] [9,10] [11,12,13] rfl (by kernel_rfl) rfl (by kernel_rfl) (by kernel_rfl) ?_
                intro wf9 hb
                replace HS := hid (HS.out.grow hb)
                replace HC := hid (HC.out.grow hb)
                replace HW := hid (Grow.trans HW.out hb)
                replace HBW4 := hid (Nat.le_trans HBW4.out (hb).size)
                replace HGB := hid (grow_block HGB.out hb)
                replace HXC := hid (grow_cell HXC.out hb)
                clear hb
                refine ⟨⟨HGB.out, HXC.out⟩, ?_⟩
                (refine' pickT_val ?po148 ?pw148 ?pr148 ?pq148 ?ph148; (case' po148 => exact rfl); (case' pw148 => rfl); (case' pq148 => (exact fun _ _ _ h => h)); (case' pr148 => (intro w' hw'; go_simp; with_reducible rfl)); (case' ph148 => (try simp only [List.getElem_toArray, List.getElem_cons_zero, List.getElem_cons_succ, Act.put, List.setIfInBounds_toArray, List.set_cons_zero, List.set_cons_succ]))); (refine' pickT_val ?po149 ?pw149 ?pr149 ?pq149 ?ph149; (case' po149 => exact rfl); (case' pw149 => rfl); (case' pq149 => (exact fun _ _ _ h => h)); (case' pr149 => (intro w' hw'; go_simp; with_reducible rfl)); (case' ph149 => (try simp only [List.getElem_toArray, List.getElem_cons_zero, List.getElem_cons_succ, Act.put, List.setIfInBounds_toArray, List.set_cons_zero, List.set_cons_succ]))); (refine' pickT_val ?po150 ?pw150 ?pr150 ?pq150 ?ph150; (case' po150 => exact rfl); (case' pw150 => rfl); (case' pq150 => (exact fun _ _ _ h => h)); (case' pr150 => (intro w' hw'; go_simp; with_reducible rfl)); (case' ph150 => (try simp only [List.getElem_toArray, List.getElem_cons_zero, List.getElem_cons_succ, Act.put, List.setIfInBounds_toArray, List.set_cons_zero, List.set_cons_succ]))); (refine' pickT_val ?po151 ?pw151 ?pr151 ?pq151 ?ph151; (case' po151 => exact rfl); (case' pw151 => rfl); (case' pq151 => (exact fun _ _ _ h => h)); (case' pr151 => (intro w' hw'; go_simp; with_reducible rfl)); (case' ph151 => (try simp only [List.getElem_toArray, List.getElem_cons_zero, List.getElem_cons_succ, Act.put, List.setIfInBounds_toArray, List.set_cons_zero, List.set_cons_succ])))
                (refine' pickT_val (v := q1.o) ?po152 ?pw152 ?pr152 ?pq152 ?ph152; (case' po152 => exact rfl); (case' pw152 => rfl); (case' pq152 => (exact fun _ _ _ h => h)); (case' pr152 => (intro w' hw'; exact run_opLoadC (i := fin.length * 3 + 1) rfl rfl hw'.1 HL3.out Try.underlying22 rfl)); (case' ph152 => (try simp only [List.getElem_toArray, List.getElem_cons_zero, List.getElem_cons_succ, Act.put, List.setIfInBounds_toArray, List.set_cons_zero, List.set_cons_succ])))
                (refine' pickT_val ?po153 ?pw153 ?pr153 ?pq153 ?ph153; (case' po153 => exact rfl); (case' pw153 => rfl); (case' pq153 => (exact fun _ _ _ h => h)); (case' pr153 => (intro w' hw'; go_simp; with_reducible rfl)); (case' ph153 => (try simp only [List.getElem_toArray, List.getElem_cons_zero, List.getElem_cons_succ, Act.put, List.setIfInBounds_toArray, List.set_cons_zero, List.set_cons_succ]))); (refine' pickT_val ?po154 ?pw154 ?pr154 ?pq154 ?ph154; (case' po154 => exact rfl); (case' pw154 => rfl); (case' pq154 => (exact fun _ _ _ h => h)); (case' pr154 => (intro w' hw'; go_simp; with_reducible rfl)); (case' ph154 => (try simp only [List.getElem_toArray, List.getElem_cons_zero, List.getElem_cons_succ, Act.put, List.setIfInBounds_toArray, List.set_cons_zero, List.set_cons_succ]))); (refine' pickT_val ?po155 ?pw155 ?pr155 ?pq155 ?ph155; (case' po155 => exact rfl); (case' pw155 => rfl); (case' pq155 => (exact fun _ _ _ h => h)); (case' pr155 => (intro w' hw'; go_simp; with_reducible rfl)); (case' ph155 => (try simp only [List.getElem_toArray, List.getElem_cons_zero, List.getElem_cons_succ, Act.put, List.setIfInBounds_toArray, List.set_cons_zero, List.set_cons_succ])))
                (refine' pickT_val (v := (.string x)) ?po156 ?pw156 ?pr156 ?pq156 ?ph156; (case' po156 => exact rfl); (case' pw156 => rfl); (case' pq156 => (exact fun _ _ _ h => h)); (case' pr156 => (intro w' hw'; exact run_opLoad1 rfl rfl hw'.2 Try.underlying9 rfl)); (case' ph156 => (try simp only [List.getElem_toArray, List.getElem_cons_zero, List.getElem_cons_succ, Act.put, List.setIfInBounds_toArray, List.set_cons_zero, List.set_cons_succ])))
                refine pickT_nil ?_
                refine seqT_does rfl rfl (does_one (cs := [.string x]) rfl rfl rfl rfl Try.underlying22 infoStrZ rfl (by simp) (by simp)) ?_
                rintro _ w8 ⟨g8', rfl, hb8, hc8⟩
                replace HS := hid (HS.out.grow hb8)
                replace HC := hid (HC.out.grow hb8)
                replace HW := hid (Grow.trans HW.out hb8)
                replace HBW4 := hid (Nat.le_trans HBW4.out (hb8).size)
                replace HGB := hid (grow_block HGB.out hb8)
                replace HXC := hid (grow_cell HXC.out hb8)
                clear hb8
                refine ⟨⟨HGB.out, HXC.out⟩, ?_⟩
                refine seqT_does rfl rfl (does_appOwn (v := q1.o) (news := [.string x]) (n := hk.old.length) (B := w.heap.size) rfl Try.underlying22 infoStrZ rfl (by decide) rfl rfl rfl hc8 (by intro u hu; cases hu with | head => rfl | tail _ h => cases h) HS.out.last.2.old HBW4.out (by have := HHB.out; omega) (by have := HHB.out; omega)) ?_
                rintro o' w9 ⟨ho9, hg9, hm9⟩
                have HOB := hid (fun k (hk' : q1.o.ownBlock = some k) => own_blk_ty HS.out.last.2.old hk')
                have HG9 := hid (blk_other' hg9 HGB.out (fun e => by obtain ⟨cs', fr', h'⟩ := HOB.out gb e; exact blk_ne h' HGB.out (by decide) rfl))
                have HW9 := hid (Below.trans (show Below w.heap.size w _ from HW.out) (show Below w.heap.size _ w9 from (fr_grown (D := fun k => q1.o.ownBlock = some k) hg9 (fun k hk => .inl hk)).below (fun k hk => (own_lt HS.out.last.2.old hk).1) HBW4.out))
                have HX9 := hid (grow_cell HX0.out HW9.out)
                refine ⟨⟨HG9.out, HX9.out⟩, ?_⟩
                refine seqT_nil ?_
                show wpList _ _ _ (_ :: _ :: _ :: []) _ _
                go_wp2_with (first | (refine op_store1 (g := gb) (i := fin.length * 3 + 1) (v := o') rfl rfl rfl rfl rfl HG9.out (own_cells ho9) (own_oneCell ho9) infoStrsS (by have := HL5.out; omega) ?_) | fail)
                intro w6 hW hgr hbel
                have hd := dofOld HS.out HC.out ho9 hg9 hm9 HG9.out hW hgr
                have HS6 := hid hd.1
                have HC6 := hid hd.2
                have HW6 := hid (hbel _ _ HW9.out HLB.out)
                clear hd hW hgr hbel ho9 hg9 hm9 HG9 HX9 HW9 HOB HS HC HW HBW4 HGB HXC
                go_wp2_with fail
                refine hK _ _ (gk - 1) (by have := HZ.out; omega) ?_
                rw [hJ]
                refine ⟨k + 1, .slice (some ⟨gb, 0, none⟩) (fin.length + 1) c', hv1 ++ [⟨q1.pos, o', q1.n⟩], rfl, rfl, rfl, rfl, rfl, rfl, rfl, rfl, rfl, ?_, ?_, ?_, ?_, HW6⟩
                · rw [HE.out]; exact congrArg (Value.int .i64) (by show (i : Int) + 1 = ((i + 1 : Nat) : Int); omega)
                · rw [HE.out]; have := HZ.out; show gk - 1 + (i + 1 + j) = n + m; omega
                · rw [HE.out]; exact HS6
                · rw [HE.out]; exact HC6
              · have hdf : Dif.delD xs ys i j = false := by simpa using hdl
                rw [hdf]
                have HE := hid (show Dif.stD ByteArray.empty xs ys (k + 1) = ⟨i, j + 1, fin, some ⟨(Dif.DSt.hk ⟨i, j, fin, now⟩).pos, (Dif.DSt.hk ⟨i, j, fin, now⟩).old, (Dif.DSt.hk ⟨i, j, fin, now⟩).new ++ [ys.getD j ByteArray.empty]⟩⟩ by
                  rw [HST.out]
                  unfold Dif.stepD
                  rw [if_neg (by simp only [Dif.doneD, decide_eq_true_eq, HN.out, HM.out]; have := HND.out; omega), if_neg HKF.out, if_neg hdl]
                  rfl)
                have hjm : j < m := by
                  simp only [Dif.delD, decide_eq_true_eq, HN.out, HM.out] at hdl
                  have := HND.out
                  omega
                have hlt : (j : Int) < (m : Int) := by omega
                clear hdl hdf HST HKF
                go_wp2_with fail
                refine HGA.out.mono ?_
                rintro _ w4 ⟨gb, c', hv1, q1, rfl, hs4, hc4, hb4⟩
                obtain ⟨cur, l1, l2, l3, l4, l5⟩ := hs4.lastCells
                have HS := hid hs4
                have HC := hid hc4
                replace HW := hid (Below.trans (show Below w.heap.size w wq from HW.out) hb4)
                have HBW4 := hid (Nat.le_trans HBW.out hb4.size)
                have HGB := hid l1
                have HL3 := hid l4
                have HL5 := hid l5
                have HLB := hid l2
                clear hs4 hc4 hb4 l1 l2 l3 l4 l5 HGA HBW
                obtain ⟨ad, rfl, hc0⟩ := HY.out.at_ j (by rw [HM.out]; exact hjm)
                have HX0 := hid hc0
                clear hc0
                have HXC := hid (grow_cell HX0.out HW.out)
                generalize ys.getD j ByteArray.empty = x at *
                have HHB := hid (show (Dif.DSt.hk ⟨i, j, fin, now⟩).old.length ≤ 100000 ∧ (Dif.DSt.hk ⟨i, j, fin, now⟩).new.length ≤ 100000 from HBD.out.2)
                generalize Dif.DSt.hk ⟨i, j, fin, now⟩ = hk at *
                go_wp2_with fail
                refine wp_region_floatG (fun W => W.heap[gb]? = some (.cells cur 77 (0, 0)) ∧ W.cell? (ad.add j) = some (.string x) ∧ W.heap[g10]? = some (.cells #[.int .i64 (j : Int)] 3 (0, 0))) [0,1,2,3,4,5,6,7,8] [9,10] [11,12,13] rfl (by kernel_rfl) rfl (by kernel_rfl) (by kernel_rfl) ?_
                intro wf10 hb
                replace HS := hid (HS.out.grow hb)
                replace HC := hid (HC.out.grow hb)
                replace HW := hid (Grow.trans HW.out hb)
                replace HBW4 := hid (Nat.le_trans HBW4.out (hb).size)
                replace HGB := hid (grow_block HGB.out hb)
                replace HXC := hid (grow_cell HXC.out hb)
                clear hb
                refine ⟨⟨HGB.out, HXC.out, HC.out.c10⟩, ?_⟩
                (refine' pickT_val ?po157 ?pw157 ?pr157 ?pq157 ?ph157; (case' po157 => exact rfl); (case' pw157 => rfl); (case' pq157 => (exact fun _ _ _ h => h)); (case' pr157 => (intro w' hw'; go_simp; with_reducible rfl)); (case' ph157 => (try simp only [List.getElem_toArray, List.getElem_cons_zero, List.getElem_cons_succ, Act.put, List.setIfInBounds_toArray, List.set_cons_zero, List.set_cons_succ]))); (refine' pickT_val ?po158 ?pw158 ?pr158 ?pq158 ?ph158; (case' po158 => exact rfl); (case' pw158 => rfl); (case' pq158 => (exact fun _ _ _ h => h)); (case' pr158 => (intro w' hw'; go_simp; with_reducible rfl)); (case' ph158 => (try simp only [List.getElem_toArray, List.getElem_cons_zero, List.getElem_cons_succ, Act.put, List.setIfInBounds_toArray, List.set_cons_zero, List.set_cons_succ]))); (refine' pickT_val ?po159 ?pw159 ?pr159 ?pq159 ?ph159; (case' po159 => exact rfl); (case' pw159 => rfl); (case' pq159 => (exact fun _ _ _ h => h)); (case' pr159 => (intro w' hw'; go_simp; with_reducible rfl)); (case' ph159 => (try simp only [List.getElem_toArray, List.getElem_cons_zero, List.getElem_cons_succ, Act.put, List.setIfInBounds_toArray, List.set_cons_zero, List.set_cons_succ]))); (refine' pickT_val ?po160 ?pw160 ?pr160 ?pq160 ?ph160; (case' po160 => exact rfl); (case' pw160 => rfl); (case' pq160 => (exact fun _ _ _ h => h)); (case' pr160 => (intro w' hw'; go_simp; with_reducible rfl)); (case' ph160 => (try simp only [List.getElem_toArray, List.getElem_cons_zero, List.getElem_cons_succ, Act.put, List.setIfInBounds_toArray, List.set_cons_zero, List.set_cons_succ])))
                (refine' pickT_val (v := q1.n) ?po161 ?pw161 ?pr161 ?pq161 ?ph161; (case' po161 => exact rfl); (case' pw161 => rfl); (case' pq161 => (exact fun _ _ _ h => h)); (case' pr161 => (intro w' hw'; exact run_opLoadC (i := fin.length * 3 + 2) rfl rfl hw'.1 HL3.out Try.underlying22 rfl)); (case' ph161 => (try simp only [List.getElem_toArray, List.getElem_cons_zero, List.getElem_cons_succ, Act.put, List.setIfInBounds_toArray, List.set_cons_zero, List.set_cons_succ])))
                (refine' pickT_val ?po162 ?pw162 ?pr162 ?pq162 ?ph162; (case' po162 => exact rfl); (case' pw162 => rfl); (case' pq162 => (exact fun _ _ _ h => h)); (case' pr162 => (intro w' hw'; go_simp; with_reducible rfl)); (case' ph162 => (try simp only [List.getElem_toArray, List.getElem_cons_zero, List.getElem_cons_succ, Act.put, List.setIfInBounds_toArray, List.set_cons_zero, List.set_cons_succ])))
                (refine' pickT_val (v := (.int .i64 (j : Int))) ?po163 ?pw163 ?pr163 ?pq163 ?ph163; (case' po163 => exact rfl); (case' pw163 => rfl); (case' pq163 => (exact fun _ _ _ h => h)); (case' pr163 => (intro w' hw'; exact run_opLoadC rfl rfl hw'.2.2 rfl Try.underlying3 rfl)); (case' ph163 => (try simp only [List.getElem_toArray, List.getElem_cons_zero, List.getElem_cons_succ, Act.put, List.setIfInBounds_toArray, List.set_cons_zero, List.set_cons_succ])))
                (refine' pickT_val ?po164 ?pw164 ?pr164 ?pq164 ?ph164; (case' po164 => exact rfl); (case' pw164 => rfl); (case' pq164 => (exact fun _ _ _ h => h)); (case' pr164 => (intro w' hw'; go_simp; with_reducible rfl)); (case' ph164 => (try simp only [List.getElem_toArray, List.getElem_cons_zero, List.getElem_cons_succ, Act.put, List.setIfInBounds_toArray, List.set_cons_zero, List.set_cons_succ])))
                (refine' pickT_val (v := (.string x)) ?po165 ?pw165 ?pr165 ?pq165 ?ph165; (case' po165 => exact rfl); (case' pw165 => rfl); (case' pq165 => (exact fun _ _ _ h => h)); (case' pr165 => (intro w' hw'; exact run_opLoad1 rfl rfl hw'.2.1 Try.underlying9 rfl)); (case' ph165 => (try simp only [List.getElem_toArray, List.getElem_cons_zero, List.getElem_cons_succ, Act.put, List.setIfInBounds_toArray, List.set_cons_zero, List.set_cons_succ])))
                refine pickT_nil ?_
                refine seqT_does rfl rfl (does_one (cs := [.string x]) rfl rfl rfl rfl Try.underlying22 infoStrZ rfl (by simp) (by simp)) ?_
                rintro _ w8 ⟨g8', rfl, hb8, hc8⟩
                replace HS := hid (HS.out.grow hb8)
                replace HC := hid (HC.out.grow hb8)
                replace HW := hid (Grow.trans HW.out hb8)
                replace HBW4 := hid (Nat.le_trans HBW4.out (hb8).size)
                replace HGB := hid (grow_block HGB.out hb8)
                replace HXC := hid (grow_cell HXC.out hb8)
                clear hb8
                refine ⟨⟨HGB.out, HXC.out, HC.out.c10⟩, ?_⟩
                refine seqT_does rfl rfl (does_appOwn (v := q1.n) (news := [.string x]) (n := hk.new.length) (B := w.heap.size) rfl Try.underlying22 infoStrZ rfl (by decide) rfl rfl rfl hc8 (by intro u hu; cases hu with | head => rfl | tail _ h => cases h) HS.out.last.2.new HBW4.out (by have := HHB.out; omega) (by have := HHB.out; omega)) ?_
                rintro o' w9 ⟨ho9, hg9, hm9⟩
                have HOB := hid (fun k (hk' : q1.n.ownBlock = some k) => own_blk_ty HS.out.last.2.new hk')
                have HG9 := hid (blk_other' hg9 HGB.out (fun e => by obtain ⟨cs', fr', h'⟩ := HOB.out gb e; exact blk_ne h' HGB.out (by decide) rfl))
                have HJ9 := hid (blk_other' hg9 HC.out.c10 (fun e => by obtain ⟨cs', fr', h'⟩ := HOB.out g10 e; exact blk_ne h' HC.out.c10 (by decide) rfl))
                have HW9 := hid (Below.trans (show Below w.heap.size w _ from HW.out) (show Below w.heap.size _ w9 from (fr_grown (D := fun k => q1.n.ownBlock = some k) hg9 (fun k hk => .inl hk)).below (fun k hk => (own_lt HS.out.last.2.new hk).1) HBW4.out))
                have HX9 := hid (grow_cell HX0.out HW9.out)
                refine ⟨⟨HG9.out, HX9.out, HJ9.out⟩, ?_⟩
                refine seqT_nil ?_
                show wpList _ _ _ (_ :: _ :: _ :: []) _ _
                go_wp2_with (first | (refine op_store1 (g := gb) (i := fin.length * 3 + 2) (v := o') rfl rfl rfl rfl rfl HG9.out (own_cells ho9) (own_oneCell ho9) infoStrsS (by have := HL5.out; omega) ?_) | fail)
                intro w6 hW hgr hbel
                have hd := dofNew HS.out HC.out ho9 hg9 hm9 HG9.out hW hgr
                have HS6 := hid hd.1
                have HC6 := hid hd.2
                have HW6 := hid (hbel _ _ HW9.out HLB.out)
                clear hd hW hgr hbel ho9 hg9 hm9 HG9 HJ9 HX9 HW9 HOB HS HC HW HBW4 HGB HXC
                have hj6 : w6.cell? ⟨g10, 0, none⟩ = some (.int .i64 (j : Int)) := blk_cell HC6.out.c10 rfl
                go_wp2_with (first | (refine op_store1 (g := g10) (i := 0) (v := .int .i64 ((j + 1 : Nat) : Int)) rfl rfl rfl rfl (by first | rfl | (go_simp; rfl) | go_simp) HC6.out.c10 rfl rfl infoIntS (by simp) ?_) | fail)
                intro w7 hW hgr hbel
                have hd := dofJ HS6.out HC6.out (j' := j + 1) (by simpa using hW) hgr
                have HS7 := hid hd.1
                have HC7 := hid hd.2
                have HW7 := hid (hbel _ _ HW6.out HC6.out.l10)
                clear hd hW hgr hbel HS6 HC6 HW6 hj6
                go_wp2_with fail
                refine hK _ _ (gk - 1) (by have := HZ.out; omega) ?_
                rw [hJ]
                refine ⟨k + 1, .slice (some ⟨gb, 0, none⟩) (fin.length + 1) c', hv1 ++ [⟨q1.pos, q1.o, o'⟩], rfl, rfl, rfl, rfl, rfl, rfl, rfl, rfl, rfl, ?_, ?_, ?_, ?_, HW7⟩
                · rw [HE.out]; rfl
                · rw [HE.out]; have := HZ.out; show gk - 1 + (i + (j + 1)) = n + m; omega
                · rw [HE.out]; exact HS7
                · rw [HE.out]; exact HC7
end Go.Proofs.Ytkbapegohodcgaa
