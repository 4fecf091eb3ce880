/- quitclaimlaw12.awake; the law DiffBack. -/
import Derived.Test.YtkbapegohodcgaaQDifG
set_option linter.unusedSimpArgs false
set_option linter.unusedVariables false
namespace Go.Proofs.Ytkbapegohodcgaa
open Go.RowKit
open Go.Qk hiding rotr b4
set_option maxHeartbeats 4000000
set_option maxRecDepth 100000
theorem lines_abc : linesB [sA, sB, sC] = true := by decide +kernel
theorem lines_axc : linesB [sA, sX, sC] = true := by decide +kernel
theorem short_of {xs : List ByteArray} (h : linesB xs = true) : ∀ s ∈ xs, s.size ≤ 9223372036854775807 := fun s hs => by
  unfold linesB at h
  simp only [Bool.and_eq_true, List.all_eq_true, decide_eq_true_eq] at h
  have := h.1 s hs
  unfold lineB at this
  simp only [Bool.and_eq_true, decide_eq_true_eq] at this
  omega
theorem two_rows (w : World) (o1 o2 : Obj) : ((w.alloc o1).alloc o2).heap[w.heap.size]? = some o1 ∧ ((w.alloc o1).alloc o2).heap[w.heap.size + 1]? = some o2 ∧ Grow w ((w.alloc o1).alloc o2) := by
  have h1 := heap_alloc_new w o1
  have s1 : (w.alloc o1).heap.size = w.heap.size + 1 := by simp
  have h2 := heap_alloc_new (w.alloc o1) o2
  rw [s1] at h2
  exact ⟨grow_block h1 (grow_alloc _ _), h2, (grow_alloc _ _).trans (grow_alloc _ _)⟩
theorem strRow1 {w : World} {g : Nat} {x : ByteArray} {t : TypeId} {fr : Nat × Nat} (h : w.heap[g]? = some (.cells #[.string x] t fr)) : StrRow w (some ⟨g, 0, none⟩) [x] := by
  refine ⟨by simp, fun _ => ⟨_, rfl, fun i hi => ?_⟩⟩
  obtain rfl : i = 0 := by simp at hi; omega
  exact blk_cell h rfl
theorem awake12 (w : World) : Calls Try.prog 50 #[] w fun e w' => e = .returned (.bool true) ∧ Below w.heap.size w w' := by
  go_enter Try.func50, Try.ntmps50
  have HB := hid (grow_refl w)
  go_wp2_with fail
  have h := two_rows w (Obj.cells #[Value.string { data := #[97] }, Value.string { data := #[98] }, Value.string { data := #[99] }] 9) (Obj.cells #[Value.string { data := #[97] }, Value.string { data := #[120] }, Value.string { data := #[99] }] 9)
  generalize (w.alloc (Obj.cells #[Value.string { data := #[97] }, Value.string { data := #[98] }, Value.string { data := #[99] }] 9)).alloc (Obj.cells #[Value.string { data := #[97] }, Value.string { data := #[120] }, Value.string { data := #[99] }] 9) = w1 at *
  generalize w.heap.size + 1 = g2 at *
  obtain ⟨h1, h2, hb⟩ := h
  have HB1 := hid hb
  refine (diffOfR (some ⟨w.heap.size, 0, none⟩) (some ⟨g2, 0, none⟩) 3 3 3 3 [sA, sB, sC] [sA, sX, sC] w1 (strRow3 h1) (strRow3 h2) rfl rfl (short_of lines_abc) (short_of lines_axc) (by rw [lines_abc, lines_axc]; rfl)).mono ?_
  rw [diff_awake]
  rintro _ w2 ⟨A', c', hs, rfl, hr, hb2⟩
  clear h1 h2 hb
  obtain ⟨ad, rfl, hc⟩ := hr.row.at_ 0 (by rw [hr.len]; exact Nat.zero_lt_one)
  have hi := hr.is 0 Nat.zero_lt_one
  have e0 : ([⟨1, [sB], [sX]⟩] : List (Dif.Hk ByteArray)).getD 0 hk0 = ⟨1, [sB], [sX]⟩ := rfl
  rw [e0] at hi
  generalize hs.getD 0 hkv0 = x at *
  obtain ⟨p, a, n1, c1, b, n2, c2⟩ := x
  obtain ⟨p1, p2, p3, p4, p5⟩ := hi
  dsimp only at p1 p2 p3 p4 p5
  subst p1
  subst p2
  subst p3
  have HC := hid hc
  have H4 := hid p4
  have H5 := hid p5
  have HB2 := hid (Grow.trans HB1.out hb2)
  clear hc p4 p5 hr e0 hb2 HB1
  have q0 : w2.cell? ad = some (.int .i64 1) := HC.out 0 _ rfl
  have q1 : w2.cell? ⟨ad.block, ad.off + 1, none⟩ = some (.slice a 1 c1) := HC.out 1 _ rfl
  have q2 : w2.cell? ⟨ad.block, ad.off + 2, none⟩ = some (.slice b 1 c2) := HC.out 2 _ rfl
  go_wp2_with fail
  have h := two_rows w2 (Obj.cells #[Value.string { data := #[98] }] 9) (Obj.cells #[Value.string { data := #[120] }] 9)
  generalize (w2.alloc (Obj.cells #[Value.string { data := #[98] }] 9)).alloc (Obj.cells #[Value.string { data := #[120] }] 9) = w3 at *
  obtain ⟨h1, h2, hb⟩ := h
  refine (hunkSameEq 1 a b (some ⟨w2.heap.size, 0, none⟩) (some ⟨w2.heap.size + 1, 0, none⟩) 1 1 c1 c2 1 1 [sB] [sX] w3 (H4.out.grow hb) (H5.out.grow hb) (strRow1 h1) (strRow1 h2) rfl rfl).mono ?_
  rintro _ w4 ⟨rfl, hb4⟩
  have HB4 := hid (Grow.trans HB2.out (Grow.trans hb hb4))
  clear h1 h2 hb hb4 q0 q1 q2
  go_wp2_with fail
  go_ret
  exact ⟨rfl, HB4.out⟩
theorem law12Long2 (A B : Option Addr) (n m c d : Nat) (xs ys : List ByteArray) (w w0 : World) (g : Nat) (hx : StrRow w A xs) (hy : StrRow w B ys) (hn : xs.length = n) (hm : ys.length = m) (hsa : ∀ s ∈ xs, s.size ≤ 9223372036854775807) (hsb : ∀ s ∈ ys, s.size ≤ 9223372036854775807) (hg : Grow w w0) (h : w0.heap[g]? = some (.cells #[.slice A n c, .slice B m d] 22 (0, 0))) :
    Calls Try.prog 49 #[.slice (some ⟨g, 0, none⟩) 2 2] w0 fun e w' => e = .returned (.bool (longB xs || longB ys)) ∧ Grow w w' := by
  subst hn hm
  refine (law12Long ⟨g, 0, none⟩ 2 2 [xs, ys] w0 rfl (by omega) (fun k hk => ?_)).mono ?_
  · have : k = 0 ∨ k = 1 := by omega
    rcases this with rfl | rfl
    · exact ⟨A, c, blk_cell h rfl, hx.grow hg, hsa⟩
    · exact ⟨B, d, by rw [addr_add0]; exact blk_cell h rfl, hy.grow hg, hsb⟩
  · rintro e w' ⟨rfl, hb⟩
    exact ⟨by simp, hg.trans hb⟩
theorem lines_small {xs : List ByteArray} (h : longB xs = false) : xs.length ≤ 40 := by
  unfold longB at h
  simp only [Bool.or_eq_false_iff, decide_eq_false_iff_not] at h
  omega
theorem diffBackW (A B : Option Addr) (n m c d : Nat) (xs ys : List ByteArray) (w : World) (hx : StrRow w A xs) (hy : StrRow w B ys) (hn : xs.length = n) (hm : ys.length = m) (hsa : ∀ s ∈ xs, s.size ≤ 9223372036854775807) (hsb : ∀ s ∈ ys, s.size ≤ 9223372036854775807) :
    Calls Try.prog 8 #[.slice A n c, .slice B m d] w fun e w' => e = .returned (.bool true) ∧ Below w.heap.size w w' := by
  have HX := hid hx
  have HY := hid hy
  have HN := hid hn
  have HM := hid hm
  have HSA := hid hsa
  have HSB := hid hsb
  have n9 : n ≤ 9223372036854775807 := by have := hx.1; omega
  have m9 : m ≤ 9223372036854775807 := by have := hy.1; omega
  clear hx hy hn hm hsa hsb
  go_enter Try.func8, Try.ntmps8
  have HB := hid (grow_refl w)
  go_wp2_with fail
  have h0 := heap_alloc_new w (.cells #[Value.slice A n c, Value.slice B m d] 22)
  have hb0 := grow_alloc w (.cells #[Value.slice A n c, Value.slice B m d] 22)
  generalize w.alloc (.cells #[Value.slice A n c, Value.slice B m d] 22) = w0 at *
  refine (law12Long2 A B n m c d xs ys w w0 _ HX.out HY.out HN.out HM.out HSA.out HSB.out hb0 h0).mono ?_
  rintro _ w1 ⟨rfl, hb⟩
  have HB1 := hid hb
  clear h0 hb0 hb HB
  by_cases hlg : (longB xs || longB ys) = true
  · rw [hlg]
    go_wp2_with fail
    refine (awake12 _).mono ?_
    rintro _ w2 ⟨rfl, hb⟩
    have HBZ := hid (Grow.trans HB1.out hb)
    clear hb
    go_wp2_with fail
    go_ret
    exact ⟨rfl, HBZ.out⟩
  have hlg2 : (longB xs || longB ys) = false := by simpa using hlg
  rw [hlg2]
  have HLG := hid hlg2
  clear hlg hlg2
  go_wp2_with fail
  refine (refLines A n c xs _ (HX.out.grow HB1.out) HN.out HSA.out).mono ?_
  rintro _ w2 ⟨rfl, hb⟩
  have HB2 := hid (Grow.trans HB1.out hb)
  clear hb HB1
  by_cases hl1 : linesB xs = true
  case neg =>
    have hl1' : linesB xs = false := by simpa using hl1
    rw [hl1']
    clear hl1 hl1'
    go_wp2_with fail
    refine (awake12 _).mono ?_
    rintro _ w3 ⟨rfl, hb⟩
    have HBZ := hid (Grow.trans HB2.out hb)
    clear hb
    go_wp2_with fail
    go_ret
    exact ⟨rfl, HBZ.out⟩
  rw [hl1]
  have HL1 := hid hl1
  clear hl1
  go_wp2_with fail
  refine (refLines B m d ys _ (HY.out.grow HB2.out) HM.out HSB.out).mono ?_
  rintro _ w3 ⟨rfl, hb⟩
  have HB3 := hid (Grow.trans HB2.out hb)
  clear hb HB2
  by_cases hl2 : linesB ys = true
  case neg =>
    have hl2' : linesB ys = false := by simpa using hl2
    rw [hl2']
    clear hl2 hl2'
    go_wp2_with fail
    refine (awake12 _).mono ?_
    rintro _ w4 ⟨rfl, hb⟩
    have HBZ := hid (Grow.trans HB3.out hb)
    clear hb
    go_wp2_with fail
    go_ret
    exact ⟨rfl, HBZ.out⟩
  rw [hl2]
  have HL2 := hid hl2
  clear hl2
  go_wp2_with fail
  refine (diffOfR A B n m c d xs ys _ (HX.out.grow HB3.out) (HY.out.grow HB3.out) HN.out HM.out HSA.out HSB.out (by rw [HL1.out, HL2.out]; rfl)).mono ?_
  rintro _ w4 ⟨A1, c1, hs1, rfl, hr1, hb⟩
  have HR1 := hid hr1
  have HB4 := hid (Grow.trans HB3.out hb)
  clear hb hr1 HB3
  have HD1 := hid (diffL_bound xs ys (linesB_len HL1.out) (linesB_len HL2.out))
  have HD2 := hid (diffL_bound ys xs (linesB_len HL2.out) (linesB_len HL1.out))
  have HF := hid (Dif.diffL_facts ByteArray.empty xs ys).2.2.2.2.2
  have HBK := hid (Dif.diff_back ByteArray.empty xs ys)
  have HLC := hid (Dif.lcs_le_l xs ys)
  go_wp2_with fail
  refine (diffOfR B A m n d c ys xs _ (HY.out.grow HB4.out) (HX.out.grow HB4.out) HM.out HN.out HSB.out HSA.out (by rw [HL1.out, HL2.out]; rfl)).mono ?_
  rintro _ w5 ⟨A2, c2, hs2, rfl, hr2, hb⟩
  have HR2 := hid hr2
  have HB5 := hid (Grow.trans HB4.out hb)
  replace HR1 := hid (HR1.out.grow hb)
  clear hb hr2 HB4
  go_wp2_with fail
  refine (diffCommon A B n m c d xs ys _ (HX.out.grow HB5.out) (HY.out.grow HB5.out) HN.out HM.out HSA.out HSB.out (by rw [HL1.out, HL2.out]; rfl)).mono ?_
  rintro _ w6 ⟨rfl, hb⟩
  have HB6 := hid (Grow.trans HB5.out hb)
  replace HR1 := hid (HR1.out.grow hb)
  replace HR2 := hid (HR2.out.grow hb)
  clear hb HB5
  have HZ1 := hid (fun w1 (hg : Grow w6 w1) => diffSizeL A1 _ c1 hs1 _ w1 (HR1.out.grow hg) rfl (by have := HD1.out; omega))
  have HZ2 := hid (fun w1 (hg : Grow w6 w1) => diffSizeL A2 _ c2 hs2 _ w1 (HR2.out.grow hg) rfl (by have := HD2.out; omega))
  rw [HBK.out] at HZ1 HF HD1
  have hn1 := linesB_len HL1.out
  have hm1 := linesB_len HL2.out
  rw [HN.out] at hn1 HF HLC
  rw [HM.out] at hm1 HF
  clear HX HY HN HM HSA HSB HL1 HL2 HLG HR1 HR2 HBK HD1
  generalize (Dif.diffL ByteArray.empty xs ys).length = q1 at *
  generalize (Dif.diffL ByteArray.empty ys xs).length = q2 at *
  generalize Dif.hksSize (Dif.diffL ByteArray.empty ys xs) = z at *
  generalize Dif.lcs xs ys = l at *
  have z1 : (z : Int) ≤ 2000 := by have := HD2.out; omega
  have lz : (l : Int) ≤ 1000 := by have := HLC.out; omega
  have zz : (z : Int) = (n : Int) + (m : Int) - 2 * (l : Int) := by have := HF.out; omega
  have HZZ := hid zz
  have e1 : IntKind.i64.wrap ((n : Int) + (m : Int)) = (n : Int) + (m : Int) := by simp [IntKind.wrap, IntKind.signed, IntKind.bits]; omega
  have e2 : IntKind.i64.wrap (2 * (l : Int)) = 2 * (l : Int) := by simp [IntKind.wrap, IntKind.signed, IntKind.bits]; omega
  have e3 : IntKind.i64.wrap ((n : Int) + (m : Int) - 2 * (l : Int)) = (n : Int) + (m : Int) - 2 * (l : Int) := by simp [IntKind.wrap, IntKind.signed, IntKind.bits]; omega
  have e4 : ((z : Int) == (n : Int) + (m : Int) - 2 * (l : Int)) = true := by simp; exact zz
  clear zz
  go_wp2_with fail
  refine (HZ1.out _ (grow_refl _)).mono ?_
  rintro _ w7 ⟨rfl, hb7⟩
  go_wp2_with fail
  refine (HZ2.out _ hb7).mono ?_
  rintro _ w8 ⟨rfl, hb8⟩
  go_wp2_with fail
  refine (HZ1.out _ (Grow.trans hb7 hb8)).mono ?_
  rintro _ w9 ⟨rfl, hb9⟩
  have HB9 := hid (Grow.trans HB6.out (Grow.trans hb7 (Grow.trans hb8 hb9)))
  clear hb7 hb8 hb9 HB6 HZ1 HZ2
  go_wp2_with fail
  refine (awake12 _).mono ?_
  rintro _ wa ⟨rfl, hb⟩
  have HBA := hid (Grow.trans HB9.out hb)
  clear hb
  go_wp2_with fail
  go_ret
  exact ⟨rfl, HBA.out⟩
end Go.Proofs.Ytkbapegohodcgaa
