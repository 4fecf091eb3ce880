/- The law DiffHunks: what is said of the hunks, plain; quitclaimref11.Same where both are alike. -/
import Derived.Test.YtkbapegohodcgaaQDifN
set_option linter.unusedSimpArgs false
set_option linter.unusedVariables false
namespace Go.Proofs.Ytkbapegohodcgaa
open Go.RowKit
open Go.Qk hiding rotr b4
set_option maxHeartbeats 8000000
set_option maxRecDepth 100000
theorem run_opLoadG {P : Program} {o : Oper} {a : Act} {w : World} {x : Operand} {ad : Addr} {ty : TypeId} {cs : List Value} {d : TypeDesc} (ho : o.op = .load ty x) (hx : a.eval x = .pointer (some ad)) (hc : ∀ j v, cs[j]? = some v → w.cell? (ad.add j) = some v)
    (hu : P.underlying ty = some d) (hd : (match d with | .struct _ | .array _ _ => true | _ => false) = true) (hi : (P.info? ty).map (·.size) = some cs.length) : (execOp a.eval o).run P w = .ok (.value (.agg cs.toArray)) w := by
  unfold execOp
  simp only [ho, hx, Sem.run_bind, Sem.run_pure, Result.andThen_ok, run_loadAt_agg w ad ty cs d hc hu hd hi]
theorem refSameEq11 (p : Int) (A1 B1 A2 B2 : Option Addr) (n m c1 d1 c2 d2 : Nat) (xs ys : List ByteArray) (w : World) (hA1 : StrRow w A1 xs) (hB1 : StrRow w B1 ys) (hA2 : StrRow w A2 xs) (hB2 : StrRow w B2 ys) (hn : xs.length = n) (hm : ys.length = m) :
    Calls Try.prog 56 #[.agg #[.int .i64 p, .slice A1 n c1, .slice B1 m d1], .agg #[.int .i64 p, .slice A2 n c2, .slice B2 m d2]] w fun e w' => e = .returned (.bool true) ∧ Below w.heap.size w w' := by
  have HA1 := hid hA1
  have HB1 := hid hB1
  have HA2 := hid hA2
  have HB2 := hid hB2
  clear hA1 hB1 hA2 hB2
  go_enter Try.func56, Try.ntmps56
  have HB := hid (grow_refl w)
  apply wp_seq_k; intro _ _; apply wp_region_lit
  refine op_boxC (cs := #[.int .i64 p, .slice A1 n c1, .slice B1 m d1]) rfl rfl rfl rfl ?_
  intro gx w1 hgl hgu hb hr
  have BXL := hid (Nat.le_trans HB.out.size hgl)
  replace HB := hid (Grow.trans HB.out hb)
  replace HA1 := hid (HA1.out.grow hb)
  replace HB1 := hid (HB1.out.grow hb)
  replace HA2 := hid (HA2.out.grow hb)
  replace HB2 := hid (HB2.out.grow hb)
  have BX := hid hr; have BXU := hid hgu
  clear hr hgl hgu hb
  try simp only [Act.put, List.setIfInBounds_toArray, List.set_cons_zero, List.set_cons_succ]
  refine op_boxC (cs := #[.int .i64 p, .slice A2 n c2, .slice B2 m d2]) rfl rfl rfl rfl ?_
  intro gy w2 hgl hgu hb hr
  have BYL := hid (Nat.le_trans HB.out.size hgl)
  replace HB := hid (Grow.trans HB.out hb)
  replace HA1 := hid (HA1.out.grow hb)
  replace HB1 := hid (HB1.out.grow hb)
  replace HA2 := hid (HA2.out.grow hb)
  replace HB2 := hid (HB2.out.grow hb)
  replace BX := hid (grow_block BX.out hb)
  have BY := hid hr; have BYU := hid hgu
  clear hr hgl hgu hb
  try simp only [Act.put, List.setIfInBounds_toArray, List.set_cons_zero, List.set_cons_succ]
  have x0 := blk_cell (i := 0) (v := Value.int .i64 p) BX.out rfl
  have y0 := blk_cell (i := 0) (v := Value.int .i64 p) BY.out rfl
  have x1 := blk_cell (i := 1) (v := Value.slice A1 n c1) BX.out rfl
  have y1 := blk_cell (i := 1) (v := Value.slice A2 n c2) BY.out rfl
  go_wp2_with fail
  refine (refSame05 A1 A2 n n c1 c2 xs xs _ HA1.out HA2.out hn hn).mono ?_
  rintro _ w1 ⟨rfl, hb⟩
  clear x0 y0 x1 y1
  replace HB := hid (Grow.trans HB.out hb)
  replace HA1 := hid (HA1.out.grow hb)
  replace HB1 := hid (HB1.out.grow hb)
  replace HA2 := hid (HA2.out.grow hb)
  replace HB2 := hid (HB2.out.grow hb)
  replace BX := hid (grow_block BX.out hb)
  replace BY := hid (grow_block BY.out hb)
  clear hb
  have hxx : decide (xs = xs) = true := by simp
  rw [hxx]
  have x2 := blk_cell (i := 2) (v := Value.slice B1 m d1) BX.out rfl
  have y2 := blk_cell (i := 2) (v := Value.slice B2 m d2) BY.out rfl
  go_wp2_with fail
  refine (refSame05 B1 B2 m m d1 d2 ys ys _ HB1.out HB2.out hm hm).mono ?_
  rintro _ w2 ⟨rfl, hb⟩
  clear x2 y2
  have hyy : decide (ys = ys) = true := by simp
  rw [hyy]
  have HBZ := hid (Grow.trans HB.out hb)
  clear hb
  go_wp2_with fail
  go_ret
  exact ⟨rfl, HBZ.out⟩
theorem applyD_someQ {l r : List ByteArray} {p : Int} {o nw : List ByteArray} (h : applyD l p o nw = some r) : linesB l = true ∧ linesB o = true ∧ linesB nw = true ∧ 0 ≤ p ∧ p.toNat ≤ l.length ∧ fitB l p.toNat o = true ∧ r = l.take p.toNat ++ nw ++ l.drop (p.toNat + o.length) ∧ r.length ≤ 1000 := by
  unfold applyD at h
  split at h
  · rename_i hc
    obtain ⟨h1, h2, h3, h4⟩ := hc
    simp only [Bool.and_eq_true] at h1
    have h5 := h1.2
    unfold hkRightB at h5
    simp only [Bool.and_eq_true, decide_eq_true_eq] at h5
    cases h
    have hfit := h3
    unfold fitB at hfit
    simp only [decide_eq_true_eq] at hfit
    have hl := congrArg List.length hfit
    simp at hl
    refine ⟨h1.1, h5.2.2.1, h5.2.2.2.1, h5.1, h2, h3, rfl, ?_⟩
    simp
    omega
  · cases h
theorem linesB_applyQ {l r : List ByteArray} {p : Int} {o nw : List ByteArray} (h : applyD l p o nw = some r) : linesB r = true := by
  obtain ⟨h1, _, h3, _, _, _, rfl, h8⟩ := applyD_someQ h
  unfold linesB at h1 h3 ⊢
  simp only [Bool.and_eq_true, List.all_eq_true, decide_eq_true_eq] at h1 h3 ⊢
  refine ⟨fun x hx => ?_, h8⟩
  rcases List.mem_append.1 hx with hx | hx
  · rcases List.mem_append.1 hx with hx | hx
    · exact h1.1 x (List.mem_of_mem_take hx)
    · exact h3.1 x hx
  · exact h1.1 x (List.mem_of_mem_drop hx)
theorem applyD_of {l : List ByteArray} {x : Dif.Hk ByteArray} (h1 : linesB l = true) (h2 : linesB x.old = true) (h3 : linesB x.new = true) (h4 : 0 < x.old.length + x.new.length) (h5 : x.pos ≤ 1000) (hf : Dif.hkFits l x) (h6 : l.length + x.new.length ≤ 1000) : applyD l (x.pos : Int) x.old x.new = some (Dif.hkApply l x) := by
  unfold applyD
  rw [if_pos]
  · rfl
  · refine ⟨?_, by simpa using hf.1, ?_, by omega⟩
    · unfold hkRightB
      simp only [h1, h2, h3, Bool.true_and, Bool.and_eq_true, Bool.or_eq_true, decide_eq_true_eq]
      exact ⟨by omega, by omega, by omega⟩
    · unfold fitB
      simpa using hf.2
theorem hkAll_len {α : Type} [DecidableEq α] : ∀ (hs : List (Dif.Hk α)) (l : List α), (Dif.hkAll l hs).length ≤ l.length + Dif.hksSize hs
  | [], l => Nat.le_add_right _ _
  | h :: t, l => by
    have h1 := hkAll_len t (Dif.hkApply l h)
    have h2 : (Dif.hkApply l h).length ≤ l.length + h.new.length := by unfold Dif.hkApply; simp; omega
    have h3 : Dif.hksSize (h :: t) = h.old.length + h.new.length + Dif.hksSize t := by simp [Dif.hksSize, Dif.hkSize]
    show (Dif.hkAll (Dif.hkApply l h) t).length ≤ _
    omega
theorem hkFit_take {α : Type} [DecidableEq α] : ∀ (k : Nat) (hs : List (Dif.Hk α)) (l : List α), Dif.hkFit l hs → Dif.hkFit l (hs.take k)
  | 0, _, _, _ => trivial
  | _ + 1, [], _, h => h
  | k + 1, h :: t, l, hf => ⟨hf.1, hkFit_take k t _ hf.2⟩
theorem linesB_sub {xs ys : List ByteArray} (h : linesB xs = true) (hs : ∀ x ∈ ys, x ∈ xs) (hl : ys.length ≤ 1000) : linesB ys = true := by
  unfold linesB at h ⊢
  simp only [Bool.and_eq_true, List.all_eq_true, decide_eq_true_eq] at h ⊢
  exact ⟨fun x hx => h.1 x (hs x hx), hl⟩
theorem apply_at (xs ys : List ByteArray) (hx : linesB xs = true) (hy : linesB ys = true) (h40 : xs.length ≤ 40) (h41 : ys.length ≤ 40) : ∀ k, k < (Dif.diffL ByteArray.empty xs ys).length →
    linesB (Dif.hkAll xs ((Dif.diffL ByteArray.empty xs ys).take k)) = true ∧ applyD (Dif.hkAll xs ((Dif.diffL ByteArray.empty xs ys).take k)) (((Dif.diffL ByteArray.empty xs ys).getD k hk0).pos : Int) ((Dif.diffL ByteArray.empty xs ys).getD k hk0).old ((Dif.diffL ByteArray.empty xs ys).getD k hk0).new = some (Dif.hkAll xs ((Dif.diffL ByteArray.empty xs ys).take (k + 1))) := by
  obtain ⟨f1, _, _, f4, f5, f6⟩ := Dif.diffL_facts ByteArray.empty xs ys
  generalize Dif.diffL ByteArray.empty xs ys = L at *
  have hz : Dif.hksSize L ≤ 80 := by omega
  have step : ∀ k, k < L.length → linesB (Dif.hkAll xs (L.take k)) = true → applyD (Dif.hkAll xs (L.take k)) ((L.getD k hk0).pos : Int) (L.getD k hk0).old (L.getD k hk0).new = some (Dif.hkAll xs (L.take (k + 1))) := fun k hk hl => by
    have hm : L.getD k hk0 ∈ L := by simp [hk]
    have e2 : L.take (k + 1) = L.take k ++ [L.getD k hk0] := by
      rw [List.take_succ_eq_append_getElem hk]
      simp [hk]
    have hft := hkFit_take (k + 1) L xs f1
    rw [e2, Dif.hkFit_snoc] at hft
    rw [e2, Dif.hkAll_snoc]
    have h4 := f4 _ hm
    have h5 := f5 _ hm
    have h6 := hkSize_le L _ hm
    have h7 := hkAll_len (L.take k) xs
    have h8 := hksSize_take L k
    exact applyD_of hl (linesB_sub hx h5.1 (by omega)) (linesB_sub hy h5.2 (by omega)) h4.1 (by omega) hft.2 (by omega)
  have hl : ∀ k, k ≤ L.length → linesB (Dif.hkAll xs (L.take k)) = true := fun k => by
    induction k with
    | zero => intro _; exact hx
    | succ k ih => intro hk; exact linesB_applyQ (step k (by omega) (ih (by omega)))
  exact fun k hk => ⟨hl k (by omega), step k hk (hl k (by omega))⟩
theorem pairs_at (xs ys : List ByteArray) (k : Nat) (hk : k < (Dif.diffL ByteArray.empty xs ys).length) (h0 : 0 < k) : ((Dif.diffL ByteArray.empty xs ys).getD (k - 1) hk0).pos + ((Dif.diffL ByteArray.empty xs ys).getD (k - 1) hk0).new.length < ((Dif.diffL ByteArray.empty xs ys).getD k hk0).pos := by
  have f3 := (Dif.diffL_facts ByteArray.empty xs ys).2.2.1
  generalize Dif.diffL ByteArray.empty xs ys = L at *
  have h := List.pairwise_iff_getElem.1 f3 (k - 1) k (by omega) hk (by omega)
  simpa [hk, show k - 1 < L.length by omega] using h
theorem diffHunksW (A B : Option Addr) (n m c d : Nat) (xs ys : List ByteArray) (w : World) (hx : StrRow w A xs) (hy : StrRow w B ys) (hn : xs.length = n) (hm : ys.length = m) (hsa : ∀ s ∈ xs, s.size ≤ 9223372036854775807) (hsb : ∀ s ∈ ys, s.size ≤ 9223372036854775807) (hnc : n ≤ c) :
    Calls Try.prog 6 #[.slice A n c, .slice B m d] w fun e w' => e = .returned (.bool true) ∧ Below w.heap.size w w' := by
  have HX := hid hx
  have HY := hid hy
  have HN := hid hn
  have HM := hid hm
  have HSA := hid hsa
  have HSB := hid hsb
  have HNC := hid hnc
  have n9 : n ≤ 9223372036854775807 := by have := hx.1; omega
  have m9 : m ≤ 9223372036854775807 := by have := hy.1; omega
  clear hx hy hn hm hsa hsb hnc
  go_enter Try.func6, Try.ntmps6
  have HB := hid (grow_refl w)
  go_wp2_with fail
  have h0 := heap_alloc_new w (.cells #[Value.slice A n c, Value.slice B m d] 22)
  have hb0 := grow_alloc w (.cells #[Value.slice A n c, Value.slice B m d] 22)
  generalize w.alloc (.cells #[Value.slice A n c, Value.slice B m d] 22) = w0 at *
  refine (law12Long2 A B n m c d xs ys w w0 _ HX.out HY.out HN.out HM.out HSA.out HSB.out hb0 h0).mono ?_
  rintro _ w1 ⟨rfl, hb⟩
  have HB1 := hid hb
  clear h0 hb0 hb HB
  by_cases hlg : (longB xs || longB ys) = true
  · rw [hlg]
    go_wp2_with fail
    refine (awake12 _).mono ?_
    rintro _ wz ⟨rfl, hb⟩
    have HBZ := hid (Grow.trans HB1.out hb)
    clear hb
    go_wp2_with fail
    go_ret
    exact ⟨rfl, HBZ.out⟩
  have hlg2 : (longB xs || longB ys) = false := by simpa using hlg
  rw [hlg2]
  have HLG := hid (show xs.length ≤ 40 ∧ ys.length ≤ 40 by simp only [Bool.or_eq_false_iff] at hlg2; exact ⟨lines_small hlg2.1, lines_small hlg2.2⟩)
  clear hlg hlg2
  by_cases hl : (linesB xs && linesB ys) = true
  case neg =>
    have hl' : (linesB xs && linesB ys) = false := by simpa using hl
    have HLF := hid hl'
    clear hl hl'
    go_wp2_with fail
    refine (diffOf_no A B n m c d xs ys _ (HX.out.grow HB1.out) (HY.out.grow HB1.out) HN.out HM.out HSA.out HSB.out HLF.out).mono ?_
    rintro _ w2 ⟨rfl, hb⟩
    have HB2 := hid (Grow.trans HB1.out hb)
    clear hb HB1
    go_wp2_with fail
    refine (diffCommon_no A B n m c d xs ys _ (HX.out.grow HB2.out) (HY.out.grow HB2.out) HN.out HM.out HSA.out HSB.out HLF.out).mono ?_
    rintro _ w3 ⟨rfl, hb⟩
    have HB3 := hid (Grow.trans HB2.out hb)
    clear hb HB2
    go_wp2_with fail
    refine (refLines A n c xs _ (HX.out.grow HB3.out) HN.out HSA.out).mono ?_
    rintro _ w4 ⟨rfl, hb⟩
    have HB4 := hid (Grow.trans HB3.out hb)
    clear hb HB3
    by_cases hl1 : linesB xs = true
    case neg =>
      have hl1' : linesB xs = false := by simpa using hl1
      rw [hl1']
      clear hl1 hl1'
      go_wp2_with fail
      refine (awake12 _).mono ?_
      rintro _ wz ⟨rfl, hb⟩
      have HBZ := hid (Grow.trans HB4.out hb)
      clear hb
      go_wp2_with fail
      go_ret
      exact ⟨rfl, HBZ.out⟩
    rw [hl1]
    have hl2 : linesB ys = false := by have := HLF.out; rw [hl1] at this; simpa using this
    clear hl1
    go_wp2_with fail
    refine (refLines B m d ys _ (HY.out.grow HB4.out) HM.out HSB.out).mono ?_
    rintro _ w5 ⟨rfl, hb⟩
    have HB5 := hid (Grow.trans HB4.out hb)
    clear hb HB4
    rw [hl2]
    clear hl2
    go_wp2_with fail
    refine (awake12 _).mono ?_
    rintro _ wz ⟨rfl, hb⟩
    have HBZ := hid (Grow.trans HB5.out hb)
    clear hb
    go_wp2_with fail
    go_ret
    exact ⟨rfl, HBZ.out⟩
  have HLT := hid hl
  have HL1 := hid (show linesB xs = true by simp only [Bool.and_eq_true] at hl; exact hl.1)
  have HL2 := hid (show linesB ys = true by simp only [Bool.and_eq_true] at hl; exact hl.2)
  clear hl
  have HAT := hid (apply_at xs ys HL1.out HL2.out HLG.out.1 HLG.out.2)
  have HPA := hid (pairs_at xs ys)
  have HBD := hid (diffL_bound xs ys (linesB_len HL1.out) (linesB_len HL2.out))
  have HFA := hid (show Dif.hkAll xs (Dif.diffL ByteArray.empty xs ys) = ys from (Dif.diffL_facts ByteArray.empty xs ys).2.1)
  have HF4 := hid (Dif.diffL_facts ByteArray.empty xs ys).2.2.2.1
  go_wp2_with fail
  refine (diffOfR A B n m c d xs ys _ (HX.out.grow HB1.out) (HY.out.grow HB1.out) HN.out HM.out HSA.out HSB.out HLT.out).mono ?_
  rintro _ w2 ⟨A1, c1, hs1, rfl, hr1, hb⟩
  have HR1 := hid hr1
  have HB2 := hid (Grow.trans HB1.out hb)
  clear hb hr1 HB1
  go_wp2_with fail
  refine (diffCommon A B n m c d xs ys _ (HX.out.grow HB2.out) (HY.out.grow HB2.out) HN.out HM.out HSA.out HSB.out HLT.out).mono ?_
  rintro _ w3 ⟨rfl, hb⟩
  have HB3 := hid (Grow.trans HB2.out hb)
  replace HR1 := hid (HR1.out.grow hb)
  clear hb HB2
  go_wp2_with fail
  refine (refLines A n c xs _ (HX.out.grow HB3.out) HN.out HSA.out).mono ?_
  rintro _ w4 ⟨rfl, hb⟩
  have HB4 := hid (Grow.trans HB3.out hb)
  replace HR1 := hid (HR1.out.grow hb)
  clear hb HB3
  rw [HL1.out]
  go_wp2_with fail
  refine (refLines B m d ys _ (HY.out.grow HB4.out) HM.out HSB.out).mono ?_
  rintro _ w5 ⟨rfl, hb⟩
  have HB5 := hid (Grow.trans HB4.out hb)
  replace HR1 := hid (HR1.out.grow hb)
  clear hb HB4
  rw [HL2.out]
  go_wp2_with fail
  have hn9 := linesB_len HL1.out
  have hm9 := linesB_len HL2.out
  rw [HN.out] at hn9
  rw [HM.out] at hm9
  refine (refOf12 A B n m c d xs ys _ (HX.out.grow HB5.out) (HY.out.grow HB5.out) HN.out HM.out HNC.out hn9 hm9).mono ?_
  rintro _ w6 ⟨A2, c2, hs2, rfl, hr2, hb⟩
  have HR2 := hid hr2
  have HB6 := hid (Grow.trans HB5.out hb)
  replace HR1 := hid (HR1.out.grow hb)
  clear hb hr2 HB5
  have HTA := hid (fun w1 (h : Grow w w1) => refTable12 B m d ys HM.out hm9 xs A c w1 (HX.out.grow h) (HY.out.grow h) (by rw [HN.out]; exact hn9) (by rw [HN.out]; exact HNC.out))
  rw [HN.out] at HTA
  obtain ⟨L, hL⟩ : ∃ L, L = Dif.diffL ByteArray.empty xs ys := ⟨_, rfl⟩
  rw [← hL] at HAT HPA HBD HFA HF4 HR1 HR2 ⊢
  clear hL
  obtain ⟨q, hq⟩ : ∃ q, q = L.length := ⟨_, rfl⟩
  have HQ := hid hq
  rw [← hq] at HAT HPA HBD ⊢
  clear hq
  have q9 : q ≤ 2000 := HBD.out.2
  go_wp2_with fail
  refine (HTA.out _ HB6.out).mono ?_
  rintro _ w7 ⟨v7, r7, rfl, ht, hb⟩
  obtain ⟨_, ⟨_, h0⟩ | ⟨o7, c7, cur7, rfl, _⟩⟩ := ht.own
  · omega
  have y0 : w7.cell? ⟨o7, 0, none⟩ = some (.slice (some ⟨r7 0, 0, none⟩) (m + 1) (m + 1)) := ht.cellRow (by omega)
  have y1 : w7.cell? ⟨r7 0, 0, none⟩ = some (.int .i64 (Dif.lcs xs ys : Int)) := ht.cellVal (by omega) (by omega)
  have HB7 := hid (Grow.trans HB6.out hb)
  replace HR1 := hid (HR1.out.grow hb)
  replace HR2 := hid (HR2.out.grow hb)
  have n0 : (0 : Int) < (n : Int) + 1 := by omega
  have m0 : (0 : Int) < (m : Int) + 1 := by omega
  clear hb ht HB6 HTA
  go_wp2_with fail
  clear y0 y1 n0 m0
  have HST := hid (show StrRow w7 A (Dif.hkAll xs (L.take 0)) from HX.out.grow HB7.out)
  go_loopg [10, 88] (q + 1) (fun z v i wr => ∃ (k nn cc : Nat) (N : Option Addr), k ≤ q ∧ z = q + 1 - k ∧ i = .int .i64 (k : Int) ∧ v = .slice N nn cc ∧ Hid (StrRow wr N (Dif.hkAll xs (L.take k))) ∧ Hid ((Dif.hkAll xs (L.take k)).length = nn) ∧ Hid (HkRd wr A1 hs1 L) ∧ Hid (HkRd wr A2 hs2 L) ∧ Hid (Grow w wr))
  case atStart => exact ⟨0, n, c, A, by omega, by omega, rfl, rfl, HST, HN, HR1, HR2, HB7⟩
  case round =>
    clear HST HR1 HR2 HB7
    obtain ⟨k, nn, cc, N, hk, hz, rfl, rfl, HST, HNL, HR1, HR2, HB⟩ := hrel
    have k0 : (0 : Int) ≤ (k : Int) := by omega
    by_cases hlt : k < q
    · have k1 : (k : Int) < (q : Int) := by omega
      have hkL : k < L.length := by rw [← HQ.out]; exact hlt
      obtain ⟨ad, rfl, hc⟩ := HR1.out.row.at_ k (by rw [HR1.out.len]; exact hkL)
      obtain ⟨ad2, rfl, hc2⟩ := HR2.out.row.at_ k (by rw [HR2.out.len]; exact hkL)
      have hi1 := HR1.out.is k hkL
      have hi2 := HR2.out.is k hkL
      have hat := HAT.out k hlt
      have hmem : L.getD k hk0 ∈ L := by simp [hkL]
      have hf4 := HF4.out _ hmem
      have HPK := hid (fun h => HPA.out k hlt h)
      have HI0 := hid (fun (h : 0 < k) => HR1.out.is (k - 1) (by omega))
      have HC0 := hid (fun (h : 0 < k) => (HR1.out.row.at_ (k - 1) (by rw [HR1.out.len]; omega)))
      generalize L.getD k hk0 = x at *
      generalize hs1.getD k hkv0 = u at *
      generalize hs2.getD k hkv0 = v at *
      obtain ⟨p, a, n1, e1, b, n2, e2⟩ := u
      obtain ⟨p', a', n1', e1', b', n2', e2'⟩ := v
      obtain ⟨i1, i2, i3, i4, i5⟩ := hi1
      obtain ⟨j1, j2, j3, j4, j5⟩ := hi2
      dsimp only at i1 i2 i3 i4 i5 j1 j2 j3 j4 j5
      obtain ⟨xp, xo, xn⟩ := x
      dsimp only at i1 i2 i3 i4 i5 j1 j2 j3 j4 j5 hat hf4 HPK
      subst i1
      subst j1
      subst i2
      subst i3
      subst j2
      subst j3
      have HC := hid hc
      have HC2 := hid hc2
      have H4 := hid i4
      have H5 := hid i5
      have J4 := hid j4
      have J5 := hid j5
      have HA := hid hat
      have xb : xp ≤ 1000 ∧ xn.length ≤ 1000 := by have := HLG.out.2; omega
      have HXB := hid xb
      clear hc hc2 i4 i5 j4 j5 hat hkL hmem hf4 xb
      go_wp2_with (first | (refine op_loadHk ⟨_, a, _, e1, b, _, e2⟩ rfl rfl rfl HC.out ?_) | (refine op_allocC (z := undef) (cs := #[.int .i64 0, .slice none 0 0, .slice none 0 0]) rfl rfl (fun _ => by kernel_rfl) ?_) | fail)
      intro g5 w75 hgl hgu hb1 hr
      go_wp2_with (first | (refine store_block 77 _ _ g5 0 [.int .i64 (xp : Int), .slice a xo.length e1, .slice b xn.length e2] [.int .i64 0, .slice none 0 0, .slice none 0 0] [.int .i64 (xp : Int), .slice a xo.length e1, .slice b xn.length e2] 77 rfl rfl rfl rfl rfl hr (by kernel_rfl) (by simp) (one3 rfl rfl) rfl ?_) | fail)
      intro w8 hW _ hbel
      have HG := hid (show w8.heap[g5]? = some (.cells #[.int .i64 (xp : Int), .slice a xo.length e1, .slice b xn.length e2] 77 (0, 0)) from hW)
      have hb : Grow wr w8 := hbel _ _ hb1 hgl
      have HBW := hid (grow_refl w8)
      replace HB := hid (Grow.trans HB.out hb)
      replace HST := hid (HST.out.grow hb)
      replace HR1 := hid (HR1.out.grow hb)
      replace HR2 := hid (HR2.out.grow hb)
      replace H4 := hid (H4.out.grow hb)
      replace H5 := hid (H5.out.grow hb)
      replace J4 := hid (J4.out.grow hb)
      replace J5 := hid (J5.out.grow hb)
      have HC2 := hid (fun j v h => grow_cell (HC2.out j v h) hb)
      have HGB := hid hb
      clear hgl hgu hb hb1 hr hW hbel HC
      go_wp2_with fail
      by_cases hkp : 0 < k
      · obtain ⟨ad', ead, hcp⟩ := HC0.out hkp
        cases ead
        have hip := HI0.out hkp
        have hpw := HPK.out hkp
        generalize L.getD (k - 1) hk0 = y at *
        generalize hs1.getD (k - 1) hkv0 = u at *
        obtain ⟨pp, a0, n0, d1, b0, m0, d0⟩ := u
        obtain ⟨yp, yo, yn⟩ := y
        obtain ⟨py, i2, i3, i4, i5⟩ := hip
        dsimp only at py i2 i3 i4 i5 hpw
        subst py
        subst i2
        subst i3
        have HP0 := hid (grow_cell (hcp 0 _ rfl) HGB.out)
        have HP2 := hid (grow_cell (hcp 2 _ rfl) HGB.out)
        have xb := HXB.out
        have wy : IntKind.i64.wrap ((yp : Int) + (yn.length : Int)) = (yp : Int) + (yn.length : Int) := by simp [IntKind.wrap, IntKind.signed, IntKind.bits]; omega
        have wk : IntKind.i64.wrap ((k : Int) - 1) = (k : Int) - 1 := by simp [IntKind.wrap, IntKind.signed, IntKind.bits]; omega
        have tk : ((k : Int) - 1).toNat = k - 1 := by omega
        have b1 : (0 : Int) ≤ (k : Int) - 1 := by omega
        have b2 : (k : Int) - 1 < (q : Int) := by omega
        have b3 : (0 : Int) < (k : Int) := by omega
        have b6 : decide (0 < k) = true := by simp; omega
        have b7 : (1 : Int) ≤ (k : Int) := by omega
        have b4 : ¬ (xp : Int) ≤ (yp : Int) + (yn.length : Int) := by omega
        clear i4 i5 hcp hpw HC0 HI0 HPK xb hkp
        have HC0 := hid trivial
        have HI0 := hid trivial
        have HPK := hid trivial
        refine wp_region_chain (fun W => W.heap[g5]? = some (.cells #[.int .i64 (xp : Int), .slice a xo.length e1, .slice b xn.length e2] 77 (0, 0)) ∧ (∀ (j : Nat) (v : Value), [Value.int .i64 (xp : Int), .slice a' xo.length e1', .slice b' xn.length e2'][j]? = some v → W.cell? ((ad2.add (k * 3)).add j) = some v) ∧ W.cell? (ad.add ((k - 1) * 3)) = some (.int .i64 (yp : Int)) ∧ W.cell? ((ad.add ((k - 1) * 3)).add 2) = some (.slice b0 yn.length d0)) [(0, true), (1, true), (2, true), (3, true), (4, true), (5, true), (6, true), (7, true), (8, true), (9, true), (10, true), (11, false), (12, true), (13, true), (14, true), (15, true), (16, true), (17, true), (18, true), (19, true), (20, true), (21, true), (22, true), (23, true), (24, true), (25, true), (26, true), (27, true), (28, true), (29, true), (30, true), (31, true), (32, true), (33, true), (34, true), (35, true)] rfl (by kernel_rfl) rfl (by kernel_rfl) ?_
        intro wc1 hb
        replace HG := hid (grow_block HG.out hb)
        replace HBW := hid (Grow.trans HBW.out hb)
        replace HB := hid (Grow.trans HB.out hb)
        replace HST := hid (HST.out.grow hb)
        replace HR1 := hid (HR1.out.grow hb)
        replace HR2 := hid (HR2.out.grow hb)
        replace H4 := hid (H4.out.grow hb)
        replace H5 := hid (H5.out.grow hb)
        replace J4 := hid (J4.out.grow hb)
        replace J5 := hid (J5.out.grow hb)
        clear hb
        refine ⟨⟨HG.out, fun j v h => grow_cell (HC2.out j v h) HBW.out, grow_cell HP0.out HBW.out, grow_cell HP2.out HBW.out⟩, ?_⟩
        (refine' ch_val ?po1 ?pw1 ?pr1 ?pq1 ?ph1; (case' po1 => exact rfl); (case' pw1 => rfl); (case' pq1 => (exact fun _ _ _ h => h)); (case' pr1 => (intro w' hw'; go_simp; with_reducible rfl)); (case' ph1 => (try simp only [List.getElem_toArray, List.getElem_cons_zero, List.getElem_cons_succ, Act.put, List.setIfInBounds_toArray, List.set_cons_zero, List.set_cons_succ])))
        (refine' ch_val (v := (.int .i64 (xp : Int))) ?po2 ?pw2 ?pr2 ?pq2 ?ph2; (case' po2 => exact rfl); (case' pw2 => rfl); (case' pq2 => (exact fun _ _ _ h => h)); (case' pr2 => (intro w' hw'; exact run_opLoadC (i := 0) rfl rfl hw'.1 rfl Try.underlying3 rfl)); (case' ph2 => (try simp only [List.getElem_toArray, List.getElem_cons_zero, List.getElem_cons_succ, Act.put, List.setIfInBounds_toArray, List.set_cons_zero, List.set_cons_succ])))
        (refine' ch_val ?po3 ?pw3 ?pr3 ?pq3 ?ph3; (case' po3 => exact rfl); (case' pw3 => rfl); (case' pq3 => (exact fun _ _ _ h => h)); (case' pr3 => (intro w' hw'; go_simp; with_reducible rfl)); (case' ph3 => (try simp only [List.getElem_toArray, List.getElem_cons_zero, List.getElem_cons_succ, Act.put, List.setIfInBounds_toArray, List.set_cons_zero, List.set_cons_succ])))
        (refine' ch_val (v := (.slice a xo.length e1)) ?po4 ?pw4 ?pr4 ?pq4 ?ph4; (case' po4 => exact rfl); (case' pw4 => rfl); (case' pq4 => (exact fun _ _ _ h => h)); (case' pr4 => (intro w' hw'; exact run_opLoadC (i := 1) rfl rfl hw'.1 rfl Try.underlying22 rfl)); (case' ph4 => (try simp only [List.getElem_toArray, List.getElem_cons_zero, List.getElem_cons_succ, Act.put, List.setIfInBounds_toArray, List.set_cons_zero, List.set_cons_succ])))
        (refine' ch_val ?po5 ?pw5 ?pr5 ?pq5 ?ph5; (case' po5 => exact rfl); (case' pw5 => rfl); (case' pq5 => (exact fun _ _ _ h => h)); (case' pr5 => (intro w' hw'; go_simp; with_reducible rfl)); (case' ph5 => (try simp only [List.getElem_toArray, List.getElem_cons_zero, List.getElem_cons_succ, Act.put, List.setIfInBounds_toArray, List.set_cons_zero, List.set_cons_succ])))
        (refine' ch_val (v := (.slice b xn.length e2)) ?po6 ?pw6 ?pr6 ?pq6 ?ph6; (case' po6 => exact rfl); (case' pw6 => rfl); (case' pq6 => (exact fun _ _ _ h => h)); (case' pr6 => (intro w' hw'; exact run_opLoadC (i := 2) rfl rfl hw'.1 rfl Try.underlying22 rfl)); (case' ph6 => (try simp only [List.getElem_toArray, List.getElem_cons_zero, List.getElem_cons_succ, Act.put, List.setIfInBounds_toArray, List.set_cons_zero, List.set_cons_succ])))
        (refine' ch_val ?po7 ?pw7 ?pr7 ?pq7 ?ph7; (case' po7 => exact rfl); (case' pw7 => rfl); (case' pq7 => (exact fun _ _ _ h => h)); (case' pr7 => (intro w' hw'; go_simp; with_reducible rfl)); (case' ph7 => (try simp only [List.getElem_toArray, List.getElem_cons_zero, List.getElem_cons_succ, Act.put, List.setIfInBounds_toArray, List.set_cons_zero, List.set_cons_succ]))); (refine' ch_val ?po8 ?pw8 ?pr8 ?pq8 ?ph8; (case' po8 => exact rfl); (case' pw8 => rfl); (case' pq8 => (exact fun _ _ _ h => h)); (case' pr8 => (intro w' hw'; go_simp; with_reducible rfl)); (case' ph8 => (try simp only [List.getElem_toArray, List.getElem_cons_zero, List.getElem_cons_succ, Act.put, List.setIfInBounds_toArray, List.set_cons_zero, List.set_cons_succ]))); (refine' ch_val ?po9 ?pw9 ?pr9 ?pq9 ?ph9; (case' po9 => exact rfl); (case' pw9 => rfl); (case' pq9 => (exact fun _ _ _ h => h)); (case' pr9 => (intro w' hw'; go_simp; with_reducible rfl)); (case' ph9 => (try simp only [List.getElem_toArray, List.getElem_cons_zero, List.getElem_cons_succ, Act.put, List.setIfInBounds_toArray, List.set_cons_zero, List.set_cons_succ]))); (refine' ch_val ?po10 ?pw10 ?pr10 ?pq10 ?ph10; (case' po10 => exact rfl); (case' pw10 => rfl); (case' pq10 => (exact fun _ _ _ h => h)); (case' pr10 => (intro w' hw'; go_simp; with_reducible rfl)); (case' ph10 => (try simp only [List.getElem_toArray, List.getElem_cons_zero, List.getElem_cons_succ, Act.put, List.setIfInBounds_toArray, List.set_cons_zero, List.set_cons_succ])))
        (refine' ch_val (v := (.agg #[.int .i64 (xp : Int), .slice a' xo.length e1', .slice b' xn.length e2'])) ?po11 ?pw11 ?pr11 ?pq11 ?ph11; (case' po11 => exact rfl); (case' pw11 => rfl); (case' pq11 => (exact fun _ _ _ h => h)); (case' pr11 => (intro w' hw'; exact run_opLoadG (cs := [.int .i64 (xp : Int), .slice a' xo.length e1', .slice b' xn.length e2']) rfl rfl hw'.2.1 Try.underlying79 rfl (by rw [infoRfS]; rfl))); (case' ph11 => (try simp only [List.getElem_toArray, List.getElem_cons_zero, List.getElem_cons_succ, Act.put, List.setIfInBounds_toArray, List.set_cons_zero, List.set_cons_succ])))
        refine ch_call rfl rfl (by first | (go_simp; done) | (go_simp; rfl)) (refSameEq11 (xp : Int) a b a' b' xo.length xn.length e1 e2 e1' e2' xo xn _ H4.out H5.out J4.out J5.out rfl rfl) ?_
        rintro _ ws ⟨rfl, hb⟩
        replace HG := hid (grow_block HG.out hb)
        replace HBW := hid (Grow.trans HBW.out hb)
        replace HB := hid (Grow.trans HB.out hb)
        replace HST := hid (HST.out.grow hb)
        replace HR1 := hid (HR1.out.grow hb)
        replace HR2 := hid (HR2.out.grow hb)
        replace H4 := hid (H4.out.grow hb)
        replace H5 := hid (H5.out.grow hb)
        replace J4 := hid (J4.out.grow hb)
        replace J5 := hid (J5.out.grow hb)
        clear hb
        refine ⟨_, rfl, ⟨HG.out, fun j v h => grow_cell (HC2.out j v h) HBW.out, grow_cell HP0.out HBW.out, grow_cell HP2.out HBW.out⟩, ?_⟩
        try simp only [List.getElem_toArray, List.getElem_cons_zero, List.getElem_cons_succ, Act.put, List.setIfInBounds_toArray, List.set_cons_zero, List.set_cons_succ]
        (refine' ch_val ?po12 ?pw12 ?pr12 ?pq12 ?ph12; (case' po12 => exact rfl); (case' pw12 => rfl); (case' pq12 => (exact fun _ _ _ h => h)); (case' pr12 => (intro w' hw'; go_simp; with_reducible rfl)); (case' ph12 => (try simp only [List.getElem_toArray, List.getElem_cons_zero, List.getElem_cons_succ, Act.put, List.setIfInBounds_toArray, List.set_cons_zero, List.set_cons_succ]))); (refine' ch_val ?po13 ?pw13 ?pr13 ?pq13 ?ph13; (case' po13 => exact rfl); (case' pw13 => rfl); (case' pq13 => (exact fun _ _ _ h => h)); (case' pr13 => (intro w' hw'; go_simp; with_reducible rfl)); (case' ph13 => (try simp only [List.getElem_toArray, List.getElem_cons_zero, List.getElem_cons_succ, Act.put, List.setIfInBounds_toArray, List.set_cons_zero, List.set_cons_succ]))); (refine' ch_val ?po14 ?pw14 ?pr14 ?pq14 ?ph14; (case' po14 => exact rfl); (case' pw14 => rfl); (case' pq14 => (exact fun _ _ _ h => h)); (case' pr14 => (intro w' hw'; go_simp; with_reducible rfl)); (case' ph14 => (try simp only [List.getElem_toArray, List.getElem_cons_zero, List.getElem_cons_succ, Act.put, List.setIfInBounds_toArray, List.set_cons_zero, List.set_cons_succ]))); (refine' ch_val ?po15 ?pw15 ?pr15 ?pq15 ?ph15; (case' po15 => exact rfl); (case' pw15 => rfl); (case' pq15 => (exact fun _ _ _ h => h)); (case' pr15 => (intro w' hw'; go_simp; with_reducible rfl)); (case' ph15 => (try simp only [List.getElem_toArray, List.getElem_cons_zero, List.getElem_cons_succ, Act.put, List.setIfInBounds_toArray, List.set_cons_zero, List.set_cons_succ]))); (refine' ch_val ?po16 ?pw16 ?pr16 ?pq16 ?ph16; (case' po16 => exact rfl); (case' pw16 => rfl); (case' pq16 => (exact fun _ _ _ h => h)); (case' pr16 => (intro w' hw'; go_simp; with_reducible rfl)); (case' ph16 => (try simp only [List.getElem_toArray, List.getElem_cons_zero, List.getElem_cons_succ, Act.put, List.setIfInBounds_toArray, List.set_cons_zero, List.set_cons_succ]))); (refine' ch_val ?po17 ?pw17 ?pr17 ?pq17 ?ph17; (case' po17 => exact rfl); (case' pw17 => rfl); (case' pq17 => (exact fun _ _ _ h => h)); (case' pr17 => (intro w' hw'; go_simp; with_reducible rfl)); (case' ph17 => (try simp only [List.getElem_toArray, List.getElem_cons_zero, List.getElem_cons_succ, Act.put, List.setIfInBounds_toArray, List.set_cons_zero, List.set_cons_succ])))
        (refine' ch_val (v := (.int .i64 (xp : Int))) ?po18 ?pw18 ?pr18 ?pq18 ?ph18; (case' po18 => exact rfl); (case' pw18 => rfl); (case' pq18 => (exact fun _ _ _ h => h)); (case' pr18 => (intro w' hw'; exact run_opLoadC (i := 0) rfl rfl hw'.1 rfl Try.underlying3 rfl)); (case' ph18 => (try simp only [List.getElem_toArray, List.getElem_cons_zero, List.getElem_cons_succ, Act.put, List.setIfInBounds_toArray, List.set_cons_zero, List.set_cons_succ])))
        (refine' ch_val ?po19 ?pw19 ?pr19 ?pq19 ?ph19; (case' po19 => exact rfl); (case' pw19 => rfl); (case' pq19 => (exact fun _ _ _ h => h)); (case' pr19 => (intro w' hw'; go_simp; with_reducible rfl)); (case' ph19 => (try simp only [List.getElem_toArray, List.getElem_cons_zero, List.getElem_cons_succ, Act.put, List.setIfInBounds_toArray, List.set_cons_zero, List.set_cons_succ]))); (refine' ch_val ?po20 ?pw20 ?pr20 ?pq20 ?ph20; (case' po20 => exact rfl); (case' pw20 => rfl); (case' pq20 => (exact fun _ _ _ h => h)); (case' pr20 => (intro w' hw'; go_simp; with_reducible rfl)); (case' ph20 => (try simp only [List.getElem_toArray, List.getElem_cons_zero, List.getElem_cons_succ, Act.put, List.setIfInBounds_toArray, List.set_cons_zero, List.set_cons_succ]))); (refine' ch_val ?po21 ?pw21 ?pr21 ?pq21 ?ph21; (case' po21 => exact rfl); (case' pw21 => rfl); (case' pq21 => (exact fun _ _ _ h => h)); (case' pr21 => (intro w' hw'; go_simp; with_reducible rfl)); (case' ph21 => (try simp only [List.getElem_toArray, List.getElem_cons_zero, List.getElem_cons_succ, Act.put, List.setIfInBounds_toArray, List.set_cons_zero, List.set_cons_succ]))); (refine' ch_val ?po22 ?pw22 ?pr22 ?pq22 ?ph22; (case' po22 => exact rfl); (case' pw22 => rfl); (case' pq22 => (exact fun _ _ _ h => h)); (case' pr22 => (intro w' hw'; go_simp; with_reducible rfl)); (case' ph22 => (try simp only [List.getElem_toArray, List.getElem_cons_zero, List.getElem_cons_succ, Act.put, List.setIfInBounds_toArray, List.set_cons_zero, List.set_cons_succ]))); (refine' ch_val ?po23 ?pw23 ?pr23 ?pq23 ?ph23; (case' po23 => exact rfl); (case' pw23 => rfl); (case' pq23 => (exact fun _ _ _ h => h)); (case' pr23 => (intro w' hw'; go_simp; with_reducible rfl)); (case' ph23 => (try simp only [List.getElem_toArray, List.getElem_cons_zero, List.getElem_cons_succ, Act.put, List.setIfInBounds_toArray, List.set_cons_zero, List.set_cons_succ])))
        (refine' ch_val (v := (.int .i64 (yp : Int))) ?po24 ?pw24 ?pr24 ?pq24 ?ph24; (case' po24 => exact rfl); (case' pw24 => rfl); (case' pq24 => (exact fun _ _ _ h => h)); (case' pr24 => (intro w' hw'; exact run_opLoad1 rfl rfl hw'.2.2.1 Try.underlying3 rfl)); (case' ph24 => (try simp only [List.getElem_toArray, List.getElem_cons_zero, List.getElem_cons_succ, Act.put, List.setIfInBounds_toArray, List.set_cons_zero, List.set_cons_succ])))
        (refine' ch_val ?po25 ?pw25 ?pr25 ?pq25 ?ph25; (case' po25 => exact rfl); (case' pw25 => rfl); (case' pq25 => (exact fun _ _ _ h => h)); (case' pr25 => (intro w' hw'; go_simp; with_reducible rfl)); (case' ph25 => (try simp only [List.getElem_toArray, List.getElem_cons_zero, List.getElem_cons_succ, Act.put, List.setIfInBounds_toArray, List.set_cons_zero, List.set_cons_succ]))); (refine' ch_val ?po26 ?pw26 ?pr26 ?pq26 ?ph26; (case' po26 => exact rfl); (case' pw26 => rfl); (case' pq26 => (exact fun _ _ _ h => h)); (case' pr26 => (intro w' hw'; go_simp; with_reducible rfl)); (case' ph26 => (try simp only [List.getElem_toArray, List.getElem_cons_zero, List.getElem_cons_succ, Act.put, List.setIfInBounds_toArray, List.set_cons_zero, List.set_cons_succ]))); (refine' ch_val ?po27 ?pw27 ?pr27 ?pq27 ?ph27; (case' po27 => exact rfl); (case' pw27 => rfl); (case' pq27 => (exact fun _ _ _ h => h)); (case' pr27 => (intro w' hw'; go_simp; with_reducible rfl)); (case' ph27 => (try simp only [List.getElem_toArray, List.getElem_cons_zero, List.getElem_cons_succ, Act.put, List.setIfInBounds_toArray, List.set_cons_zero, List.set_cons_succ]))); (refine' ch_val ?po28 ?pw28 ?pr28 ?pq28 ?ph28; (case' po28 => exact rfl); (case' pw28 => rfl); (case' pq28 => (exact fun _ _ _ h => h)); (case' pr28 => (intro w' hw'; go_simp; with_reducible rfl)); (case' ph28 => (try simp only [List.getElem_toArray, List.getElem_cons_zero, List.getElem_cons_succ, Act.put, List.setIfInBounds_toArray, List.set_cons_zero, List.set_cons_succ]))); (refine' ch_val ?po29 ?pw29 ?pr29 ?pq29 ?ph29; (case' po29 => exact rfl); (case' pw29 => rfl); (case' pq29 => (exact fun _ _ _ h => h)); (case' pr29 => (intro w' hw'; go_simp; with_reducible rfl)); (case' ph29 => (try simp only [List.getElem_toArray, List.getElem_cons_zero, List.getElem_cons_succ, Act.put, List.setIfInBounds_toArray, List.set_cons_zero, List.set_cons_succ])))
        (refine' ch_val (v := (.slice b0 yn.length d0)) ?po30 ?pw30 ?pr30 ?pq30 ?ph30; (case' po30 => exact rfl); (case' pw30 => rfl); (case' pq30 => (exact fun _ _ _ h => h)); (case' pr30 => (intro w' hw'; exact run_opLoad1 rfl rfl hw'.2.2.2 Try.underlying22 rfl)); (case' ph30 => (try simp only [List.getElem_toArray, List.getElem_cons_zero, List.getElem_cons_succ, Act.put, List.setIfInBounds_toArray, List.set_cons_zero, List.set_cons_succ])))
        (refine' ch_val ?po31 ?pw31 ?pr31 ?pq31 ?ph31; (case' po31 => exact rfl); (case' pw31 => rfl); (case' pq31 => (exact fun _ _ _ h => h)); (case' pr31 => (intro w' hw'; go_simp; with_reducible rfl)); (case' ph31 => (try simp only [List.getElem_toArray, List.getElem_cons_zero, List.getElem_cons_succ, Act.put, List.setIfInBounds_toArray, List.set_cons_zero, List.set_cons_succ]))); (refine' ch_val ?po32 ?pw32 ?pr32 ?pq32 ?ph32; (case' po32 => exact rfl); (case' pw32 => rfl); (case' pq32 => (exact fun _ _ _ h => h)); (case' pr32 => (intro w' hw'; go_simp; with_reducible rfl)); (case' ph32 => (try simp only [List.getElem_toArray, List.getElem_cons_zero, List.getElem_cons_succ, Act.put, List.setIfInBounds_toArray, List.set_cons_zero, List.set_cons_succ]))); (refine' ch_val ?po33 ?pw33 ?pr33 ?pq33 ?ph33; (case' po33 => exact rfl); (case' pw33 => rfl); (case' pq33 => (exact fun _ _ _ h => h)); (case' pr33 => (intro w' hw'; go_simp; with_reducible rfl)); (case' ph33 => (try simp only [List.getElem_toArray, List.getElem_cons_zero, List.getElem_cons_succ, Act.put, List.setIfInBounds_toArray, List.set_cons_zero, List.set_cons_succ]))); (refine' ch_val ?po34 ?pw34 ?pr34 ?pq34 ?ph34; (case' po34 => exact rfl); (case' pw34 => rfl); (case' pq34 => (exact fun _ _ _ h => h)); (case' pr34 => (intro w' hw'; go_simp; with_reducible rfl)); (case' ph34 => (try simp only [List.getElem_toArray, List.getElem_cons_zero, List.getElem_cons_succ, Act.put, List.setIfInBounds_toArray, List.set_cons_zero, List.set_cons_succ]))); (refine' ch_val ?po35 ?pw35 ?pr35 ?pq35 ?ph35; (case' po35 => exact rfl); (case' pw35 => rfl); (case' pq35 => (exact fun _ _ _ h => h)); (case' pr35 => (intro w' hw'; go_simp; with_reducible rfl)); (case' ph35 => (try simp only [List.getElem_toArray, List.getElem_cons_zero, List.getElem_cons_succ, Act.put, List.setIfInBounds_toArray, List.set_cons_zero, List.set_cons_succ])))
        refine ch_nil ?_
        replace HC2 := hid (fun j v h => grow_cell (HC2.out j v h) HBW.out)
        clear HP0 HP2 wy wk tk b1 b2 b3 b4 b6 b7
        go_wp2_with (first | (refine wpList_load_agg rfl 79 _ rfl _ rfl [.int .i64 (xp : Int), .slice a' xo.length e1', .slice b' xn.length e2'] _ HC2.out Try.underlying79 rfl (by rw [infoRfS]; rfl) ?_) | fail)
        refine (refApply (xp : Int) N a' b' xo.length xn.length nn e1' e2' cc _ xo xn _ HST.out J4.out J5.out HNL.out rfl rfl (short_of HA.out.1) (short_of (applyD_someQ HA.out.2).2.1) (short_of (applyD_someQ HA.out.2).2.2.1)).mono ?_
        rintro _ w9 ⟨v9, er, rfl, hap, hb⟩
        rw [HA.out.2] at hap
        obtain ⟨rfl, hown⟩ := hap
        obtain ⟨N', c', rfl, hrow⟩ := strRow_own hown
        have HRW := hid hrow
        replace HB := hid (Grow.trans HB.out hb)
        replace HR1 := hid (HR1.out.grow hb)
        replace HR2 := hid (HR2.out.grow hb)
        clear hb hown hrow HA HST J4 J5 H4 H5 HC2 HG HBW HPK HI0 HC0
        go_wp2_with fail
        go_roundg (q + 1 - (k + 1))
        case rel => exact ⟨k + 1, _, c', N', by omega, rfl, by go_num, rfl, HRW, hid rfl, HR1, HR2, HB⟩
        case measure => omega
      · obtain rfl : k = 0 := by omega
        clear hkp
        refine wp_region_chain (fun W => W.heap[g5]? = some (.cells #[.int .i64 (xp : Int), .slice a xo.length e1, .slice b xn.length e2] 77 (0, 0)) ∧ (∀ (j : Nat) (v : Value), [Value.int .i64 (xp : Int), .slice a' xo.length e1', .slice b' xn.length e2'][j]? = some v → W.cell? ((ad2.add (0 * 3)).add j) = some v)) [(0, true), (1, true), (2, true), (3, true), (4, true), (5, true), (6, true), (7, true), (8, true), (9, true), (10, true), (11, false), (12, true), (13, true), (14, true), (15, true), (16, true), (17, true), (18, true), (19, true), (20, true), (21, true), (22, true), (23, true), (24, true), (25, true), (26, true), (27, true), (28, true), (29, true), (30, true), (31, true), (32, true), (33, true), (34, true), (35, true)] rfl (by kernel_rfl) rfl (by kernel_rfl) ?_
        intro wc2 hb
        replace HG := hid (grow_block HG.out hb)
        replace HBW := hid (Grow.trans HBW.out hb)
        replace HB := hid (Grow.trans HB.out hb)
        replace HST := hid (HST.out.grow hb)
        replace HR1 := hid (HR1.out.grow hb)
        replace HR2 := hid (HR2.out.grow hb)
        replace H4 := hid (H4.out.grow hb)
        replace H5 := hid (H5.out.grow hb)
        replace J4 := hid (J4.out.grow hb)
        replace J5 := hid (J5.out.grow hb)
        clear hb
        refine ⟨⟨HG.out, fun j v h => grow_cell (HC2.out j v h) HBW.out⟩, ?_⟩
        (refine' ch_val ?po36 ?pw36 ?pr36 ?pq36 ?ph36; (case' po36 => exact rfl); (case' pw36 => rfl); (case' pq36 => (exact fun _ _ _ h => h)); (case' pr36 => (intro w' hw'; go_simp; with_reducible rfl)); (case' ph36 => (try simp only [List.getElem_toArray, List.getElem_cons_zero, List.getElem_cons_succ, Act.put, List.setIfInBounds_toArray, List.set_cons_zero, List.set_cons_succ])))
        (refine' ch_val (v := (.int .i64 (xp : Int))) ?po37 ?pw37 ?pr37 ?pq37 ?ph37; (case' po37 => exact rfl); (case' pw37 => rfl); (case' pq37 => (exact fun _ _ _ h => h)); (case' pr37 => (intro w' hw'; exact run_opLoadC (i := 0) rfl rfl hw'.1 rfl Try.underlying3 rfl)); (case' ph37 => (try simp only [List.getElem_toArray, List.getElem_cons_zero, List.getElem_cons_succ, Act.put, List.setIfInBounds_toArray, List.set_cons_zero, List.set_cons_succ])))
        (refine' ch_val ?po38 ?pw38 ?pr38 ?pq38 ?ph38; (case' po38 => exact rfl); (case' pw38 => rfl); (case' pq38 => (exact fun _ _ _ h => h)); (case' pr38 => (intro w' hw'; go_simp; with_reducible rfl)); (case' ph38 => (try simp only [List.getElem_toArray, List.getElem_cons_zero, List.getElem_cons_succ, Act.put, List.setIfInBounds_toArray, List.set_cons_zero, List.set_cons_succ])))
        (refine' ch_val (v := (.slice a xo.length e1)) ?po39 ?pw39 ?pr39 ?pq39 ?ph39; (case' po39 => exact rfl); (case' pw39 => rfl); (case' pq39 => (exact fun _ _ _ h => h)); (case' pr39 => (intro w' hw'; exact run_opLoadC (i := 1) rfl rfl hw'.1 rfl Try.underlying22 rfl)); (case' ph39 => (try simp only [List.getElem_toArray, List.getElem_cons_zero, List.getElem_cons_succ, Act.put, List.setIfInBounds_toArray, List.set_cons_zero, List.set_cons_succ])))
        (refine' ch_val ?po40 ?pw40 ?pr40 ?pq40 ?ph40; (case' po40 => exact rfl); (case' pw40 => rfl); (case' pq40 => (exact fun _ _ _ h => h)); (case' pr40 => (intro w' hw'; go_simp; with_reducible rfl)); (case' ph40 => (try simp only [List.getElem_toArray, List.getElem_cons_zero, List.getElem_cons_succ, Act.put, List.setIfInBounds_toArray, List.set_cons_zero, List.set_cons_succ])))
        (refine' ch_val (v := (.slice b xn.length e2)) ?po41 ?pw41 ?pr41 ?pq41 ?ph41; (case' po41 => exact rfl); (case' pw41 => rfl); (case' pq41 => (exact fun _ _ _ h => h)); (case' pr41 => (intro w' hw'; exact run_opLoadC (i := 2) rfl rfl hw'.1 rfl Try.underlying22 rfl)); (case' ph41 => (try simp only [List.getElem_toArray, List.getElem_cons_zero, List.getElem_cons_succ, Act.put, List.setIfInBounds_toArray, List.set_cons_zero, List.set_cons_succ])))
        (refine' ch_val ?po42 ?pw42 ?pr42 ?pq42 ?ph42; (case' po42 => exact rfl); (case' pw42 => rfl); (case' pq42 => (exact fun _ _ _ h => h)); (case' pr42 => (intro w' hw'; go_simp; with_reducible rfl)); (case' ph42 => (try simp only [List.getElem_toArray, List.getElem_cons_zero, List.getElem_cons_succ, Act.put, List.setIfInBounds_toArray, List.set_cons_zero, List.set_cons_succ]))); (refine' ch_val ?po43 ?pw43 ?pr43 ?pq43 ?ph43; (case' po43 => exact rfl); (case' pw43 => rfl); (case' pq43 => (exact fun _ _ _ h => h)); (case' pr43 => (intro w' hw'; go_simp; with_reducible rfl)); (case' ph43 => (try simp only [List.getElem_toArray, List.getElem_cons_zero, List.getElem_cons_succ, Act.put, List.setIfInBounds_toArray, List.set_cons_zero, List.set_cons_succ]))); (refine' ch_val ?po44 ?pw44 ?pr44 ?pq44 ?ph44; (case' po44 => exact rfl); (case' pw44 => rfl); (case' pq44 => (exact fun _ _ _ h => h)); (case' pr44 => (intro w' hw'; go_simp; with_reducible rfl)); (case' ph44 => (try simp only [List.getElem_toArray, List.getElem_cons_zero, List.getElem_cons_succ, Act.put, List.setIfInBounds_toArray, List.set_cons_zero, List.set_cons_succ]))); (refine' ch_val ?po45 ?pw45 ?pr45 ?pq45 ?ph45; (case' po45 => exact rfl); (case' pw45 => rfl); (case' pq45 => (exact fun _ _ _ h => h)); (case' pr45 => (intro w' hw'; go_simp; with_reducible rfl)); (case' ph45 => (try simp only [List.getElem_toArray, List.getElem_cons_zero, List.getElem_cons_succ, Act.put, List.setIfInBounds_toArray, List.set_cons_zero, List.set_cons_succ])))
        (refine' ch_val (v := (.agg #[.int .i64 (xp : Int), .slice a' xo.length e1', .slice b' xn.length e2'])) ?po46 ?pw46 ?pr46 ?pq46 ?ph46; (case' po46 => exact rfl); (case' pw46 => rfl); (case' pq46 => (exact fun _ _ _ h => h)); (case' pr46 => (intro w' hw'; exact run_opLoadG (cs := [.int .i64 (xp : Int), .slice a' xo.length e1', .slice b' xn.length e2']) rfl rfl hw'.2 Try.underlying79 rfl (by rw [infoRfS]; rfl))); (case' ph46 => (try simp only [List.getElem_toArray, List.getElem_cons_zero, List.getElem_cons_succ, Act.put, List.setIfInBounds_toArray, List.set_cons_zero, List.set_cons_succ])))
        refine ch_call rfl rfl (by first | (go_simp; done) | (go_simp; rfl)) (refSameEq11 (xp : Int) a b a' b' xo.length xn.length e1 e2 e1' e2' xo xn _ H4.out H5.out J4.out J5.out rfl rfl) ?_
        rintro _ ws ⟨rfl, hb⟩
        replace HG := hid (grow_block HG.out hb)
        replace HBW := hid (Grow.trans HBW.out hb)
        replace HB := hid (Grow.trans HB.out hb)
        replace HST := hid (HST.out.grow hb)
        replace HR1 := hid (HR1.out.grow hb)
        replace HR2 := hid (HR2.out.grow hb)
        replace H4 := hid (H4.out.grow hb)
        replace H5 := hid (H5.out.grow hb)
        replace J4 := hid (J4.out.grow hb)
        replace J5 := hid (J5.out.grow hb)
        clear hb
        refine ⟨_, rfl, ⟨HG.out, fun j v h => grow_cell (HC2.out j v h) HBW.out⟩, ?_⟩
        try simp only [List.getElem_toArray, List.getElem_cons_zero, List.getElem_cons_succ, Act.put, List.setIfInBounds_toArray, List.set_cons_zero, List.set_cons_succ]
        (refine' ch_val ?po47 ?pw47 ?pr47 ?pq47 ?ph47; (case' po47 => exact rfl); (case' pw47 => rfl); (case' pq47 => (exact fun _ _ _ h => h)); (case' pr47 => (intro w' hw'; go_simp; with_reducible rfl)); (case' ph47 => (try simp only [List.getElem_toArray, List.getElem_cons_zero, List.getElem_cons_succ, Act.put, List.setIfInBounds_toArray, List.set_cons_zero, List.set_cons_succ]))); (refine' ch_val ?po48 ?pw48 ?pr48 ?pq48 ?ph48; (case' po48 => exact rfl); (case' pw48 => rfl); (case' pq48 => (exact fun _ _ _ h => h)); (case' pr48 => (intro w' hw'; go_simp; with_reducible rfl)); (case' ph48 => (try simp only [List.getElem_toArray, List.getElem_cons_zero, List.getElem_cons_succ, Act.put, List.setIfInBounds_toArray, List.set_cons_zero, List.set_cons_succ]))); (refine' ch_val ?po49 ?pw49 ?pr49 ?pq49 ?ph49; (case' po49 => exact rfl); (case' pw49 => rfl); (case' pq49 => (exact fun _ _ _ h => h)); (case' pr49 => (intro w' hw'; go_simp; with_reducible rfl)); (case' ph49 => (try simp only [List.getElem_toArray, List.getElem_cons_zero, List.getElem_cons_succ, Act.put, List.setIfInBounds_toArray, List.set_cons_zero, List.set_cons_succ]))); (refine' ch_val ?po50 ?pw50 ?pr50 ?pq50 ?ph50; (case' po50 => exact rfl); (case' pw50 => rfl); (case' pq50 => (exact fun _ _ _ h => h)); (case' pr50 => (intro w' hw'; go_simp; with_reducible rfl)); (case' ph50 => (try simp only [List.getElem_toArray, List.getElem_cons_zero, List.getElem_cons_succ, Act.put, List.setIfInBounds_toArray, List.set_cons_zero, List.set_cons_succ]))); (refine' ch_val ?po51 ?pw51 ?pr51 ?pq51 ?ph51; (case' po51 => exact rfl); (case' pw51 => rfl); (case' pq51 => (exact fun _ _ _ h => h)); (case' pr51 => (intro w' hw'; go_simp; with_reducible rfl)); (case' ph51 => (try simp only [List.getElem_toArray, List.getElem_cons_zero, List.getElem_cons_succ, Act.put, List.setIfInBounds_toArray, List.set_cons_zero, List.set_cons_succ])))
        (refine' ch_skip rfl rfl (fun _ _ _ h => h) ?_; try simp only [List.getElem_toArray, List.getElem_cons_zero, List.getElem_cons_succ, Act.put, List.setIfInBounds_toArray, List.set_cons_zero, List.set_cons_succ]); (refine' ch_skip rfl rfl (fun _ _ _ h => h) ?_; try simp only [List.getElem_toArray, List.getElem_cons_zero, List.getElem_cons_succ, Act.put, List.setIfInBounds_toArray, List.set_cons_zero, List.set_cons_succ]); (refine' ch_skip rfl rfl (fun _ _ _ h => h) ?_; try simp only [List.getElem_toArray, List.getElem_cons_zero, List.getElem_cons_succ, Act.put, List.setIfInBounds_toArray, List.set_cons_zero, List.set_cons_succ]); (refine' ch_skip rfl rfl (fun _ _ _ h => h) ?_; try simp only [List.getElem_toArray, List.getElem_cons_zero, List.getElem_cons_succ, Act.put, List.setIfInBounds_toArray, List.set_cons_zero, List.set_cons_succ]); (refine' ch_skip rfl rfl (fun _ _ _ h => h) ?_; try simp only [List.getElem_toArray, List.getElem_cons_zero, List.getElem_cons_succ, Act.put, List.setIfInBounds_toArray, List.set_cons_zero, List.set_cons_succ]); (refine' ch_skip rfl rfl (fun _ _ _ h => h) ?_; try simp only [List.getElem_toArray, List.getElem_cons_zero, List.getElem_cons_succ, Act.put, List.setIfInBounds_toArray, List.set_cons_zero, List.set_cons_succ]); (refine' ch_skip rfl rfl (fun _ _ _ h => h) ?_; try simp only [List.getElem_toArray, List.getElem_cons_zero, List.getElem_cons_succ, Act.put, List.setIfInBounds_toArray, List.set_cons_zero, List.set_cons_succ]); (refine' ch_skip rfl rfl (fun _ _ _ h => h) ?_; try simp only [List.getElem_toArray, List.getElem_cons_zero, List.getElem_cons_succ, Act.put, List.setIfInBounds_toArray, List.set_cons_zero, List.set_cons_succ]); (refine' ch_skip rfl rfl (fun _ _ _ h => h) ?_; try simp only [List.getElem_toArray, List.getElem_cons_zero, List.getElem_cons_succ, Act.put, List.setIfInBounds_toArray, List.set_cons_zero, List.set_cons_succ]); (refine' ch_skip rfl rfl (fun _ _ _ h => h) ?_; try simp only [List.getElem_toArray, List.getElem_cons_zero, List.getElem_cons_succ, Act.put, List.setIfInBounds_toArray, List.set_cons_zero, List.set_cons_succ]); (refine' ch_skip rfl rfl (fun _ _ _ h => h) ?_; try simp only [List.getElem_toArray, List.getElem_cons_zero, List.getElem_cons_succ, Act.put, List.setIfInBounds_toArray, List.set_cons_zero, List.set_cons_succ]); (refine' ch_skip rfl rfl (fun _ _ _ h => h) ?_; try simp only [List.getElem_toArray, List.getElem_cons_zero, List.getElem_cons_succ, Act.put, List.setIfInBounds_toArray, List.set_cons_zero, List.set_cons_succ]); (refine' ch_skip rfl rfl (fun _ _ _ h => h) ?_; try simp only [List.getElem_toArray, List.getElem_cons_zero, List.getElem_cons_succ, Act.put, List.setIfInBounds_toArray, List.set_cons_zero, List.set_cons_succ]); (refine' ch_skip rfl rfl (fun _ _ _ h => h) ?_; try simp only [List.getElem_toArray, List.getElem_cons_zero, List.getElem_cons_succ, Act.put, List.setIfInBounds_toArray, List.set_cons_zero, List.set_cons_succ]); (refine' ch_skip rfl rfl (fun _ _ _ h => h) ?_; try simp only [List.getElem_toArray, List.getElem_cons_zero, List.getElem_cons_succ, Act.put, List.setIfInBounds_toArray, List.set_cons_zero, List.set_cons_succ]); (refine' ch_skip rfl rfl (fun _ _ _ h => h) ?_; try simp only [List.getElem_toArray, List.getElem_cons_zero, List.getElem_cons_succ, Act.put, List.setIfInBounds_toArray, List.set_cons_zero, List.set_cons_succ]); (refine' ch_skip rfl rfl (fun _ _ _ h => h) ?_; try simp only [List.getElem_toArray, List.getElem_cons_zero, List.getElem_cons_succ, Act.put, List.setIfInBounds_toArray, List.set_cons_zero, List.set_cons_succ])
        (refine' ch_val ?po52 ?pw52 ?pr52 ?pq52 ?ph52; (case' po52 => exact rfl); (case' pw52 => rfl); (case' pq52 => (exact fun _ _ _ h => h)); (case' pr52 => (intro w' hw'; go_simp; with_reducible rfl)); (case' ph52 => (try simp only [List.getElem_toArray, List.getElem_cons_zero, List.getElem_cons_succ, Act.put, List.setIfInBounds_toArray, List.set_cons_zero, List.set_cons_succ]))); (refine' ch_val ?po53 ?pw53 ?pr53 ?pq53 ?ph53; (case' po53 => exact rfl); (case' pw53 => rfl); (case' pq53 => (exact fun _ _ _ h => h)); (case' pr53 => (intro w' hw'; go_simp; with_reducible rfl)); (case' ph53 => (try simp only [List.getElem_toArray, List.getElem_cons_zero, List.getElem_cons_succ, Act.put, List.setIfInBounds_toArray, List.set_cons_zero, List.set_cons_succ])))
        refine ch_nil ?_
        replace HC2 := hid (fun j v h => grow_cell (HC2.out j v h) HBW.out)
        go_wp2_with (first | (refine wpList_load_agg rfl 79 _ rfl _ rfl [.int .i64 (xp : Int), .slice a' xo.length e1', .slice b' xn.length e2'] _ HC2.out Try.underlying79 rfl (by rw [infoRfS]; rfl) ?_) | fail)
        refine (refApply (xp : Int) N a' b' xo.length xn.length nn e1' e2' cc _ xo xn _ HST.out J4.out J5.out HNL.out rfl rfl (short_of HA.out.1) (short_of (applyD_someQ HA.out.2).2.1) (short_of (applyD_someQ HA.out.2).2.2.1)).mono ?_
        rintro _ w9 ⟨v9, er, rfl, hap, hb⟩
        rw [HA.out.2] at hap
        obtain ⟨rfl, hown⟩ := hap
        obtain ⟨N', c', rfl, hrow⟩ := strRow_own hown
        have HRW := hid hrow
        replace HB := hid (Grow.trans HB.out hb)
        replace HR1 := hid (HR1.out.grow hb)
        replace HR2 := hid (HR2.out.grow hb)
        clear hb hown hrow HA HST J4 J5 H4 H5 HC2 HG HBW HPK HI0 HC0
        go_wp2_with fail
        go_roundg (q + 1 - (0 + 1))
        case rel => exact ⟨0 + 1, _, c', N', by omega, rfl, by go_num, rfl, HRW, hid rfl, HR1, HR2, HB⟩
        case measure => omega
    · obtain rfl : k = q := by omega
      rw [List.take_of_length_le (by rw [← HQ.out]; omega), HFA.out] at HST HNL
      have hnn : nn = m := by rw [← HNL.out, HM.out]
      subst hnn
      clear HR1 HR2
      go_wp2_with fail
      refine (refSame05 N B _ _ cc d ys ys _ HST.out (HY.out.grow HB.out) HM.out HM.out).mono ?_
      rintro _ w8 ⟨rfl, hb⟩
      have HB8 := hid (Grow.trans HB.out hb)
      clear hb
      have hdd : decide (ys = ys) = true := by simp
      rw [hdd]
      go_wp2_with fail
      refine (awake12 _).mono ?_
      rintro _ wz ⟨rfl, hb⟩
      have HBZ := hid (Grow.trans HB8.out hb)
      clear hb
      go_wp2_with fail
      go_ret
      exact ⟨rfl, HBZ.out⟩
end Go.Proofs.Ytkbapegohodcgaa
