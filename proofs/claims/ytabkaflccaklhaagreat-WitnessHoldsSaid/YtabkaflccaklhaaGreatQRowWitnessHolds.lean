/- THE ROW of quitclaimlaw09.WitnessHolds: for every input the law returns true, and each argument reads behind the call as it read before. -/
import Derived.Test.YtabkaflccaklhaaGreatRows
import Derived.Test.YtabkaflccaklhaaGreatQWitK
import Derived.Test.YtabkaflccaklhaaGreatQRowV
import Derived.Test.YtabkaflccaklhaaGreatQRowFacts
import Derived.Test.YtabkaflccaklhaaGreatQRowS
import Derived.Test.YtabkaflccaklhaaGreatQIdx1
set_option linter.unusedSimpArgs false
set_option linter.unusedVariables false
namespace Go.Proofs.YtabkaflccaklhaaGreat.RowWitnessHolds
open Go.ChangeShapes Go.WideShapes Go.ChangeAt Go.RowKit Go.Qk
open Go.ChangeMaps (open_string shut_string)
set_option linter.unusedVariables false
set_option maxRecDepth 100000 in
theorem lifted (os : Os) (started : os.Started) (H : Type) (enc : TypeId × Value → H) :
    ReturnsInHanded {} Tryz.checked os 6 .any (Rows.witnessHoldsSpec.pre6 enc Tryz.prog Tryz.f6 Rows.witnessHoldsRow.domain false) (Rows.witnessHoldsSpec.post enc Tryz.prog Tryz.f6 false true false false) := by
  refine returnsInHanded_of_change_sized (C := Tryz.checked) pOwn started (by kernel_rfl) Tryz.func6
    (ChangeSpec.witness6 (enc := enc) (C := Tryz.checked) false ⟨#[], #[.int .u8 0, .string ByteArray.empty, .slice none 0 0, idV (List.replicate 32 0), .agg #[.int .i64 0, .slice none 0 0, .slice none 0 0, .slice none 0 0], .agg witZ.toArray, .int .i64 0], []⟩ 64 (by kernel_rfl) (by kernel_rfl) (by kernel_rfl) (by kernel_rfl)) ?_
  intro W base args ds gs before hval0 hW hcnd hsz0 _
  have hsz : (DataW.weightsEach Tryz.prog (Tryz.f6.params.toList ++ Rows.witnessHoldsSpec.plain.varTypes Tryz.prog) (ds ++ gs)).all (· ≤ reachBytes) = true := hsz0
  have hval : ∀ (j : Nat) t v, Tryz.f6.params[j]? = some t → args[j]? = some v → Value.okWide Tryz.prog W .any base t v := hval0
  have hW' := hW
  obtain ⟨p, q, hA0, hV, rfl, hfz, hnd⟩ := hW
  have hA : DataW.TrodAll enc Tryz.prog W 0 (fun _ => true) true Tryz.f6.params.toList args.toList ds p := hA0
  rw [Tryz.params6] at hA hval hsz
  obtain ⟨v0, vs0, d0, ds0, p0, q0, hargs, rfl, rfl, h0, r0⟩ := trodAll_cons hA
  obtain ⟨v1, vs1, d1, ds1, p1, q1, rfl, rfl, rfl, h1, r1⟩ := trodAll_cons r0
  obtain ⟨v2, vs2, d2, ds2, p2, q2, rfl, rfl, rfl, h2, r2⟩ := trodAll_cons r1
  obtain ⟨v3, vs3, d3, ds3, p3, q3, rfl, rfl, rfl, h3, r3⟩ := trodAll_cons r2
  obtain ⟨v4, vs4, d4, ds4, p4, q4, rfl, rfl, rfl, h4, r4⟩ := trodAll_cons r3
  obtain ⟨v5, vs5, d5, ds5, p5, q5, rfl, rfl, rfl, h5, r5⟩ := trodAll_cons r4
  obtain ⟨v6, vs6, d6, ds6, p6, q6, rfl, rfl, rfl, h6, r6⟩ := trodAll_cons r5
  obtain ⟨rfl, rfl, rfl⟩ := trodAll_nil r6
  obtain rfl : args = #[v0, v1, v2, v3, v4, v5, v6] := by cases args; simp_all
  obtain ⟨rfl, rfl⟩ := trodVars_none hV
  obtain ⟨a0, rfl, rfl, rfl, w0⟩ := open_int Tryz.underlying5 (hval 0 5 v0 rfl rfl) h0
  obtain ⟨a1, rfl, rfl, rfl, y1⟩ := open_string Tryz.underlying9 (hval 1 9 v1 rfl rfl) h1
  have w1 : a1.size ≤ 140737488351232 := by
    have z := sized_string hsz (j := 1) (t := 9) rfl rfl
    rw [Array.length_toList] at z
    exact z
  obtain ⟨a2, len2, cap2, rfl⟩ := okWide_slice Tryz.underlying52 (hval 2 52 v2 rfl rfl)
  have k2 := h2
  have lt2 : ∀ x ∈ p2, x.block < W.heap.size := by obtain ⟨m, hm⟩ := k2; exact DataW.trod_lt m _ _ _ hm
  obtain ⟨x2, s2, n2, m2, f2, _⟩ := (by obtain ⟨fuel, hf⟩ := h2; exact open_wrsW hf : ∃ l, WrRow W a2 l ∧ l.length = len2 ∧ (∀ x ∈ l, x.2.length = 32) ∧ (∀ x ∈ l, (Lit.int .i64 x.1).wf = true) ∧ (len2 = 0 ∨ ∃ el sp', d2 = .slice el sp' ∧ el.length = len2))
  have k3 := h3
  obtain ⟨x3, rfl, n3, e3⟩ := open_id Tryz.underlying42 Tryz.underlying5 (by kernel_rfl) (by kernel_rfl) (hval 3 42 v3 rfl rfl) h3
  have lt3 : ∀ x ∈ p3, x.block < W.heap.size := by rw [e3]; intro x hx; cases hx
  have k4 := h4
  obtain ⟨leaf4, A4, B4, C4, n4, m4, k4_, c4, d4_, e4, xs4, ys4, zs4, rfl, w4, ⟨qa4, qb4, qc4, qd4⟩, ⟨ra4, rb4, rc4, rd4⟩, ⟨ta4, tb4, tc4, td4⟩⟩ := open_sig Tryz.underlying58 (by kernel_rfl) (by kernel_rfl) Tryz.underlying3 Tryz.underlying56 Tryz.underlying56 Tryz.underlying56 Tryz.underlying42 (by kernel_rfl) Tryz.underlying5 (by kernel_rfl) (hval 4 58 v4 rfl rfl) h4
  have lt4 : ∀ x ∈ p4, x.block < W.heap.size := by obtain ⟨m, hm⟩ := k4; exact DataW.trod_lt m _ _ _ hm
  have k5 := h5
  obtain ⟨kk5, sa5, sc5, lf5, bt5, sd5, v5_, rfl, y5, w5⟩ := open_wit (hval 5 61 v5 rfl rfl) h5
  have lt5 : ∀ x ∈ p5, x.block < W.heap.size := by obtain ⟨m, hm⟩ := k5; exact DataW.trod_lt m _ _ _ hm
  obtain ⟨a6, rfl, rfl, rfl, w6⟩ := open_int Tryz.underlying3 (hval 6 3 v6 rfl rfl) h6
  clear hA0 hval0 hsz0 hsz
  refine (witnessHolds a0 w0 a1 w1 a2 len2 cap2 x2 x3 n3 leaf4 A4 B4 C4 n4 m4 k4_ c4 d4_ e4 kk5 sa5 sc5 lf5 bt5 sd5 v5_ y5 w5 a6 (by rw [← qb4]; exact qa4.1) W s2 n2 m2 f2).mono fun e W' ⟨he, bel⟩ => ?_
  subst he
  exact ⟨_, rfl, _, _, _, [], _, [], hW', trodAll_mk1 (shut_bool Tryz.underlying4 _), (trodAll_cons_mk (shut_int Tryz.underlying5 w0) (trodAll_cons_mk (shut_string Tryz.underlying9 y1) (trodAll_cons_mk (Below.trod pLaid (by kernel_rfl) (of_decide_eq_true (by kernel_rfl)) k2 bel lt2) (trodAll_cons_mk (Below.trod pLaid (by kernel_rfl) (of_decide_eq_true (by kernel_rfl)) k3 bel lt3) (trodAll_cons_mk (Below.trod pLaid (by kernel_rfl) (of_decide_eq_true (by kernel_rfl)) k4 bel lt4) (trodAll_cons_mk (Below.trod pLaid (by kernel_rfl) (of_decide_eq_true (by kernel_rfl)) k5 bel lt5) (trodAll_cons_mk (shut_int Tryz.underlying3 w6) trodAll_mk0))))))), rfl, bel.frame _, fun h => by cases h⟩
theorem k1 : Rows.witnessHoldsRow.wf (OpenSpec.ofChange Rows.witnessHoldsSpec) = true := by kernel_rfl
theorem k4 : Tryz.f6.params.all (Tryz.prog.readableRec ·) = true := by kernel_rfl
theorem k5 : namedTie Tryz.prog Rows.witnessHoldsRow.named Rows.witnessHoldsSpec.vars = true := by kernel_rfl
theorem k6 : (Rows.witnessHoldsRow.stops == []) = true := by kernel_rfl
theorem k8 : (Rows.witnessHoldsRow.knobs == []) = true := by kernel_rfl
theorem k10 : (Rows.witnessHoldsRow.inPlace == Tryz.prog.inPlace 6) = true := by kernel_rfl
theorem k11 : (Rows.witnessHoldsRow.unfollowed == Tryz.prog.unfollowed 6) = true := by kernel_rfl
theorem k12 : (Rows.witnessHoldsRow.recurses == Tryz.prog.recurses 6) = true := by kernel_rfl
theorem k13 : (Rows.witnessHoldsRow.named == Tryz.prog.varsNamed 6) = true := by kernel_rfl
theorem k14 : (Rows.witnessHoldsRow.maps == (Tryz.f6.params.toList ++ Rows.witnessHoldsSpec.plain.varTypes Tryz.prog).any (Tryz.prog.mapsRec ·)) = true := by kernel_rfl
theorem k15 : (Rows.witnessHoldsRow.ifaces == (Tryz.f6.params.toList ++ Rows.witnessHoldsSpec.plain.varTypes Tryz.prog).any (Tryz.prog.ifacesRec ·)) = true := by kernel_rfl
theorem k16 : (Rows.witnessHoldsRow.mapsOut == Tryz.prog.mapsAmong Tryz.f6.resultTypes.toList) = true := by kernel_rfl
theorem k17 : (Rows.witnessHoldsRow.loops == (Tryz.f6.params.toList ++ Rows.witnessHoldsSpec.plain.varTypes Tryz.prog).any (Tryz.prog.loopsFrom ·)) = true := by kernel_rfl
theorem k18 : (Rows.witnessHoldsRow.wideKeys == (Tryz.f6.params.toList ++ Rows.witnessHoldsSpec.plain.varTypes Tryz.prog ++ Tryz.f6.resultTypes.toList).any (Tryz.prog.wideKeysFrom ·)) = true := by kernel_rfl
theorem k19 : Rows.witnessHoldsSpec.vars.all (Tryz.prog.varReadable ·) = true := by kernel_rfl
theorem k20 : Tryz.f6.resultTypes.all (fun t => Tryz.prog.readableRec t && decide (t < Tryz.prog.types.size)) = true := by kernel_rfl
theorem k21 : (Rows.witnessHoldsRow.ifacesOut == Tryz.f6.resultTypes.toList.any (Tryz.prog.ifacesRec ·)) = true := by kernel_rfl
theorem k22 : (Rows.witnessHoldsRow.loopsOut == Tryz.f6.resultTypes.toList.any (Tryz.prog.loopsFrom ·)) = true := by kernel_rfl
theorem k23 : (Rows.witnessHoldsRow.plainKeys == Tryz.prog.plainKeys) = true := by kernel_rfl
theorem k24 : Rows.witnessHoldsRow.shortTexts.isNone = true := by kernel_rfl
theorem k28 : (Tryz.prog.make == some Rows.witnessHoldsRow.make) = true := by kernel_rfl
theorem k30 : (Rows.witnessHoldsRow.pinned == Rows.witnessHoldsRow.pinnedBy) = true := by kernel_rfl
theorem k31 : (Rows.witnessHoldsRow.veiled == (Tryz.f6.params.toList ++ Rows.witnessHoldsSpec.plain.varTypes Tryz.prog ++ Tryz.f6.resultTypes.toList).any (Tryz.prog.veiledRec ·)) = true := by kernel_rfl
theorem k32 : Rows.witnessHoldsRow.veiledFits Tryz.prog Tryz.f6.params.toList (Tryz.f6.params.toList ++ Rows.witnessHoldsSpec.plain.varTypes Tryz.prog ++ Tryz.f6.resultTypes.toList) = true := by kernel_rfl
theorem k27 : (Rows.witnessHoldsRow.lifted == Tryz.prog.liftsFinal) = true := pLifts
theorem closed : joinedFacts Tryz.prog 6 Tryz.f6 Rows.witnessHoldsSpec Rows.witnessHoldsRow = true := by
  simp only [joinedFacts, pLaid, pMaps, pStops, pKnobs, pHeard, pEnter, k27, k1, k4, k5, k6, k8, k10, k11, k12, k13, k14, k15, k16, k17, k18, k19, k20, k21, k22, k23, k24, k28, k30, k31, k32, Bool.and_true, Bool.true_and]
  kernel_rfl
theorem isNamed : Tryz.prog.funcNamed Rows.witnessHoldsRow.func = some 6 := by kernel_rfl
theorem isInst : Tryz.f6.isInstance Tryz.prog Rows.witnessHoldsRow.origin Rows.witnessHoldsRow.targs := of_decide_eq_true (by kernel_rfl)
theorem isWrap : Tryz.f6.isWrapper Tryz.prog Rows.witnessHoldsRow.wrapper Rows.witnessHoldsRow.mainSum := by unfold Func.isWrapper; first | (rw [if_pos (by decide +kernel)]; kernel_rfl) | (rw [if_neg (by decide +kernel)]; exact ⟨rfl, rfl⟩)
theorem over : Rows.witnessHoldsRow.holds Tryz.pinned (OpenSpec.ofChange Rows.witnessHoldsSpec) :=
  OpenClaim.holds_of_wide 6 Tryz.f6 rfl rfl rfl rfl rfl rfl rfl ⟨rfl, rfl, rfl, rfl, rfl⟩ rfl rfl rfl rfl rfl isNamed Tryz.func6 closed isInst isWrap
    (fun os started H enc _ => lifted os started H enc)
end Go.Proofs.YtabkaflccaklhaaGreat.RowWitnessHolds
namespace Go.Proofs.YtabkaflccaklhaaGreat
/-- The row, under a short name. -/
theorem witnessHolds_holds : Rows.WitnessHoldsSaid := RowWitnessHolds.over
#print axioms witnessHolds_holds
end Go.Proofs.YtabkaflccaklhaaGreat
