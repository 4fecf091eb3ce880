/- The law IdSets: walk. -/
import Derived.Test.YtkibibgbmkejjaaQSetK
import Derived.Test.YtkibibgbmkejjaaQSetP
set_option linter.unusedSimpArgs false
set_option linter.unusedVariables false
namespace Go.Proofs.Ytkibibgbmkejjaa
open Go.RowKit
open Go.Qk hiding rotr b4
set_option maxHeartbeats 2000000
set_option maxRecDepth 100000
theorem mem_onlyL (a b : List IdL) (h : Bool) (x : IdL) : x ∈ onlyL a b h ↔ x ∈ a ∧ (decide (x ∈ b) = h) := by
  unfold onlyL
  rw [List.mem_filter]
  have : hasL b x = decide (x ∈ b) := by simp [hasL]
  rw [this]
  simp
theorem onlyL_rises {a b : List IdL} {h : Bool} (ha : Rises a) : Rises (onlyL a b h) := List.Pairwise.filter _ ha
theorem union_law (a b : List IdL) (ha : Rises a) (hb : Rises b) (h1 : ∀ s ∈ a, s.length = 32) (h2 : ∀ s ∈ b, s.length = 32) : unionL a b = sortL (a ++ b) := by
  obtain ⟨r1, r2⟩ := merge_law (fun _ _ => true) (a.length + b.length) a b (Nat.le_refl _) ha hb h1 h2
  have h12 : ∀ s ∈ a ++ b, s.length = 32 := fun s hs => (List.mem_append.1 hs).elim (h1 s) (h2 s)
  refine rises_ext _ _ r1 (sortL_rises _ h12) fun x => ?_
  unfold unionL
  rw [r2 x, mem_sortL _ h12, List.mem_append]
  simp
theorem minus_law (a b : List IdL) (ha : Rises a) (hb : Rises b) (h1 : ∀ s ∈ a, s.length = 32) (h2 : ∀ s ∈ b, s.length = 32) : minusL a b = onlyL a b false := by
  obtain ⟨r1, r2⟩ := merge_law (fun f s => f && !s) (a.length + b.length) a b (Nat.le_refl _) ha hb h1 h2
  refine rises_ext _ _ r1 (onlyL_rises ha) fun x => ?_
  unfold minusL
  rw [r2 x, mem_onlyL]
  by_cases e1 : x ∈ a <;> by_cases e2 : x ∈ b <;> simp [e1, e2]
theorem both_law (a b : List IdL) (ha : Rises a) (hb : Rises b) (h1 : ∀ s ∈ a, s.length = 32) (h2 : ∀ s ∈ b, s.length = 32) : bothL a b = onlyL a b true := by
  obtain ⟨r1, r2⟩ := merge_law (fun f s => f && s) (a.length + b.length) a b (Nat.le_refl _) ha hb h1 h2
  refine rises_ext _ _ r1 (onlyL_rises ha) fun x => ?_
  unfold bothL
  rw [r2 x, mem_onlyL]
  by_cases e1 : x ∈ a <;> by_cases e2 : x ∈ b <;> simp [e1, e2]
theorem idSets (A B : Option Addr) (n m c d : Nat) (xs ys : List IdL) (w : World) (hx : IdRow w A xs) (hy : IdRow w B ys) (hn : xs.length = n) (hm : ys.length = m) (h1 : ∀ s ∈ xs, s.length = 32) (h2 : ∀ s ∈ ys, s.length = 32) :
    Calls Try.prog 4 #[.slice A n c, .slice B m d] w fun e w' => e = .returned (.bool true) ∧ Below w.heap.size w w' := by
  subst hn hm
  have hxl := hx.1
  have hyl := hy.1
  have X := hid hx
  have Y := hid hy
  have H1 := hid h1
  have H2 := hid h2
  clear hx hy h1 h2
  by_cases h40 : 40 < xs.length
  · have t1 : decide ((40 : Int) < (xs.length : Int)) = true := by simp; omega
    go_enter Try.func4, Try.ntmps4
    have HB := hid (grow_refl w)
    go_wp2_with fail
    refine (awake04 _).mono ?_
    rintro e w1 ⟨rfl, hb⟩
    replace HB := hid (Grow.trans HB.out hb)
    clear hb
    go_wp2
    go_ret
    exact ⟨rfl, HB.out⟩
  · have t1 : decide ((40 : Int) < (xs.length : Int)) = false := by simp; omega
    by_cases h41 : 40 < ys.length
    · have t2 : decide ((40 : Int) < (ys.length : Int)) = true := by simp; omega
      go_enter Try.func4, Try.ntmps4
      have HB := hid (grow_refl w)
      go_wp2_with fail
      refine (awake04 _).mono ?_
      rintro e w2 ⟨rfl, hb⟩
      replace HB := hid (Grow.trans HB.out hb)
      clear hb
      go_wp2
      go_ret
      exact ⟨rfl, HB.out⟩
    · have t2 : decide ((40 : Int) < (ys.length : Int)) = false := by simp; omega
      have S1 := hid (sortL_32 xs H1.out)
      have S2 := hid (sortL_32 ys H2.out)
      have S12 := hid (show ∀ s ∈ sortL xs ++ sortL ys, s.length = 32 from fun s hs => (List.mem_append.1 hs).elim (S1.out s) (S2.out s))
      have L1 := hid (show (sortL xs).length ≤ 40 by have := sortL_length xs; omega)
      have L2 := hid (show (sortL ys).length ≤ 40 by have := sortL_length ys; omega)
      have Q1 := hid (union_law _ _ (sortL_rises xs H1.out) (sortL_rises ys H2.out) S1.out S2.out)
      have Q2 := hid (minus_law _ _ (sortL_rises xs H1.out) (sortL_rises ys H2.out) S1.out S2.out)
      have Q3 := hid (both_law _ _ (sortL_rises xs H1.out) (sortL_rises ys H2.out) S1.out S2.out)
      go_enter Try.func4, Try.ntmps4
      have HB := hid (grow_refl w)
      go_wp2_with fail
      clear t1 t2
      refine (refSort A _ c xs _ X.out rfl H1.out (by omega)).mono ?_
      rintro e w3 ⟨v, rfl, ho, hb⟩
      replace HB := hid (Grow.trans HB.out hb)
      replace X := hid (X.out.grow hb)
      replace Y := hid (Y.out.grow hb)
      clear hb
      obtain ⟨⟨A1, c1, rfl, hc1, hr1⟩, _⟩ := ho
      have R1 := hid hr1
      have C1 := hid hc1
      clear hr1 hc1
      go_wp2_with fail
      refine (refSort B _ d ys _ Y.out rfl H2.out (by omega)).mono ?_
      rintro e w4 ⟨v, rfl, ho, hb⟩
      replace HB := hid (Grow.trans HB.out hb)
      replace X := hid (X.out.grow hb)
      replace Y := hid (Y.out.grow hb)
      replace R1 := hid (R1.out.grow hb)
      clear hb
      obtain ⟨⟨A2, c2, rfl, hc2, hr2⟩, _⟩ := ho
      have R2 := hid hr2
      have C2 := hid hc2
      clear hr2 hc2
      generalize sortL xs = p at *
      generalize sortL ys = q at *
      go_wp2_with (refine op_appRow (w0 := w4) (ys := []) (xs := p) rfl rfl rfl rfl (empty_own w4 w4.heap.size (Nat.le_refl _)) (R1.out.grow (grow_alloc _ _)) S1.out (grow_alloc _ _) (by simp) (by have := L1.out; simp; omega) ?_)
      intro v5 w5 ho hb hs
      have HO := hid ho
      have HW := hid hb
      clear ho hb hs
      go_wp2_with (refine op_appRow (w0 := w4) (ys := p) (xs := q) rfl rfl rfl rfl HO.out (R2.out.grow HW.out) S2.out HW.out HW.out.size (by have := L1.out; have := L2.out; omega) ?_)
      intro v6 w6 ho hb hs
      clear HO HW
      have HO := hid ho
      clear ho hs
      replace HB := hid (Grow.trans HB.out hb)
      replace X := hid (X.out.grow hb)
      replace Y := hid (Y.out.grow hb)
      replace R1 := hid (R1.out.grow hb)
      replace R2 := hid (R2.out.grow hb)
      clear hb
      obtain ⟨⟨A3, c3, rfl, hr3⟩, _⟩ := HO.out.sl
      have R3 := hid hr3
      clear hr3 HO
      go_wp2_with fail
      refine (idUnion A1 A2 _ _ c1 c2 p q rfl rfl _ R1.out R2.out S1.out S2.out C1.out C2.out (by have := L1.out; have := L2.out; omega)).mono ?_
      rintro e w7 ⟨v, rfl, ho, hb⟩
      replace HB := hid (Grow.trans HB.out hb)
      replace X := hid (X.out.grow hb)
      replace Y := hid (Y.out.grow hb)
      replace R1 := hid (R1.out.grow hb)
      replace R2 := hid (R2.out.grow hb)
      replace R3 := hid (R3.out.grow hb)
      clear hb
      obtain ⟨⟨A4, c4, rfl, hr4⟩, h4⟩ := ho.sl
      have R4 := hid hr4
      have S4 := hid h4
      clear ho hr4 h4
      go_wp2_with fail
      refine (refSort A3 _ c3 (p ++ q) _ R3.out (by simp) S12.out (by have := L1.out; have := L2.out; simp; omega)).mono ?_
      rintro e w8 ⟨v, rfl, ho, hb⟩
      replace HB := hid (Grow.trans HB.out hb)
      replace X := hid (X.out.grow hb)
      replace Y := hid (Y.out.grow hb)
      replace R1 := hid (R1.out.grow hb)
      replace R2 := hid (R2.out.grow hb)
      replace R3 := hid (R3.out.grow hb)
      replace R4 := hid (R4.out.grow hb)
      clear hb
      obtain ⟨⟨A5, c5, rfl, _, hr5⟩, h5⟩ := ho
      have R5 := hid hr5
      have S5 := hid h5
      clear hr5 h5
      go_wp2_with fail
      refine (refSame A4 A5 _ _ c4 c5 _ _ _ R4.out R5.out rfl rfl S4.out S5.out).mono ?_
      rintro e w3 ⟨rfl, hb⟩
      replace HB := hid (Grow.trans HB.out hb)
      replace X := hid (X.out.grow hb)
      replace Y := hid (Y.out.grow hb)
      replace R1 := hid (R1.out.grow hb)
      replace R2 := hid (R2.out.grow hb)
      replace R3 := hid (R3.out.grow hb)
      replace R4 := hid (R4.out.grow hb)
      clear hb
      rw [Q1.out, beq_self_eq_true]
      clear R4
      clear R5 S4 S5
      go_wp2_with fail
      refine (idMinus A1 A2 _ _ c1 c2 p q rfl rfl _ R1.out R2.out S1.out S2.out C1.out C2.out (by have := L1.out; have := L2.out; omega)).mono ?_
      rintro e w9 ⟨v, rfl, ho, hb⟩
      replace HB := hid (Grow.trans HB.out hb)
      replace X := hid (X.out.grow hb)
      replace Y := hid (Y.out.grow hb)
      replace R1 := hid (R1.out.grow hb)
      replace R2 := hid (R2.out.grow hb)
      replace R3 := hid (R3.out.grow hb)
      clear hb
      obtain ⟨⟨A4, c4, rfl, hr4⟩, h4⟩ := ho.sl
      have R4 := hid hr4
      have S4 := hid h4
      clear ho hr4 h4
      go_wp2_with fail
      refine (refOnly A1 A2 _ _ c1 c2 p q false _ R1.out R2.out rfl rfl S1.out S2.out (by have := L1.out; omega)).mono ?_
      rintro e w10 ⟨v, rfl, ho, hb⟩
      replace HB := hid (Grow.trans HB.out hb)
      replace X := hid (X.out.grow hb)
      replace Y := hid (Y.out.grow hb)
      replace R1 := hid (R1.out.grow hb)
      replace R2 := hid (R2.out.grow hb)
      replace R3 := hid (R3.out.grow hb)
      replace R4 := hid (R4.out.grow hb)
      clear hb
      obtain ⟨⟨A5, c5, rfl, _, hr5⟩, h5⟩ := ho
      have R5 := hid hr5
      have S5 := hid h5
      clear hr5 h5
      go_wp2_with fail
      refine (refSame A4 A5 _ _ c4 c5 _ _ _ R4.out R5.out rfl rfl S4.out S5.out).mono ?_
      rintro e w4 ⟨rfl, hb⟩
      replace HB := hid (Grow.trans HB.out hb)
      replace X := hid (X.out.grow hb)
      replace Y := hid (Y.out.grow hb)
      replace R1 := hid (R1.out.grow hb)
      replace R2 := hid (R2.out.grow hb)
      replace R3 := hid (R3.out.grow hb)
      replace R4 := hid (R4.out.grow hb)
      clear hb
      rw [Q2.out, beq_self_eq_true]
      clear R4
      clear R5 S4 S5
      go_wp2_with fail
      refine (idBoth A1 A2 _ _ c1 c2 p q rfl rfl _ R1.out R2.out S1.out S2.out C1.out C2.out (by have := L1.out; have := L2.out; omega)).mono ?_
      rintro e w11 ⟨v, rfl, ho, hb⟩
      replace HB := hid (Grow.trans HB.out hb)
      replace X := hid (X.out.grow hb)
      replace Y := hid (Y.out.grow hb)
      replace R1 := hid (R1.out.grow hb)
      replace R2 := hid (R2.out.grow hb)
      replace R3 := hid (R3.out.grow hb)
      clear hb
      obtain ⟨⟨A4, c4, rfl, hr4⟩, h4⟩ := ho.sl
      have R4 := hid hr4
      have S4 := hid h4
      clear ho hr4 h4
      go_wp2_with fail
      refine (refOnly A1 A2 _ _ c1 c2 p q true _ R1.out R2.out rfl rfl S1.out S2.out (by have := L1.out; omega)).mono ?_
      rintro e w12 ⟨v, rfl, ho, hb⟩
      replace HB := hid (Grow.trans HB.out hb)
      replace X := hid (X.out.grow hb)
      replace Y := hid (Y.out.grow hb)
      replace R1 := hid (R1.out.grow hb)
      replace R2 := hid (R2.out.grow hb)
      replace R3 := hid (R3.out.grow hb)
      replace R4 := hid (R4.out.grow hb)
      clear hb
      obtain ⟨⟨A5, c5, rfl, _, hr5⟩, h5⟩ := ho
      have R5 := hid hr5
      have S5 := hid h5
      clear hr5 h5
      go_wp2_with fail
      refine (refSame A4 A5 _ _ c4 c5 _ _ _ R4.out R5.out rfl rfl S4.out S5.out).mono ?_
      rintro e w5 ⟨rfl, hb⟩
      replace HB := hid (Grow.trans HB.out hb)
      replace X := hid (X.out.grow hb)
      replace Y := hid (Y.out.grow hb)
      replace R1 := hid (R1.out.grow hb)
      replace R2 := hid (R2.out.grow hb)
      replace R3 := hid (R3.out.grow hb)
      replace R4 := hid (R4.out.grow hb)
      clear hb
      rw [Q3.out, beq_self_eq_true]
      clear R4
      clear R5 S4 S5
      go_wp2_with fail
      refine (idSame A1 A2 _ _ c1 c2 p q _ R1.out R2.out rfl rfl S1.out S2.out).mono ?_
      rintro e w6 ⟨rfl, hb⟩
      replace HB := hid (Grow.trans HB.out hb)
      replace X := hid (X.out.grow hb)
      replace Y := hid (Y.out.grow hb)
      replace R1 := hid (R1.out.grow hb)
      replace R2 := hid (R2.out.grow hb)
      replace R3 := hid (R3.out.grow hb)
      clear hb
      go_wp2_with fail
      refine (refSame A1 A2 _ _ c1 c2 p q _ R1.out R2.out rfl rfl S1.out S2.out).mono ?_
      rintro e w7 ⟨rfl, hb⟩
      replace HB := hid (Grow.trans HB.out hb)
      replace X := hid (X.out.grow hb)
      replace Y := hid (Y.out.grow hb)
      replace R1 := hid (R1.out.grow hb)
      replace R2 := hid (R2.out.grow hb)
      replace R3 := hid (R3.out.grow hb)
      clear hb
      generalize (p == q) = z
      go_wp2_with fail
      refine (idSame A B _ _ c d xs ys _ X.out Y.out rfl rfl H1.out H2.out).mono ?_
      rintro e w8 ⟨rfl, hb⟩
      replace HB := hid (Grow.trans HB.out hb)
      replace X := hid (X.out.grow hb)
      replace Y := hid (Y.out.grow hb)
      replace R1 := hid (R1.out.grow hb)
      replace R2 := hid (R2.out.grow hb)
      replace R3 := hid (R3.out.grow hb)
      clear hb
      go_wp2_with fail
      refine (refSame A B _ _ c d xs ys _ X.out Y.out rfl rfl H1.out H2.out).mono ?_
      rintro e w9 ⟨rfl, hb⟩
      replace HB := hid (Grow.trans HB.out hb)
      replace X := hid (X.out.grow hb)
      replace Y := hid (Y.out.grow hb)
      replace R1 := hid (R1.out.grow hb)
      replace R2 := hid (R2.out.grow hb)
      replace R3 := hid (R3.out.grow hb)
      clear hb
      generalize (xs == ys) = z2
      go_wp2_with fail
      refine (awake04 _).mono ?_
      rintro e w10 ⟨rfl, hb⟩
      replace HB := hid (Grow.trans HB.out hb)
      replace X := hid (X.out.grow hb)
      replace Y := hid (Y.out.grow hb)
      replace R1 := hid (R1.out.grow hb)
      replace R2 := hid (R2.out.grow hb)
      replace R3 := hid (R3.out.grow hb)
      clear hb
      go_wp2
      go_ret
      exact ⟨rfl, HB.out⟩
end Go.Proofs.Ytkibibgbmkejjaa
