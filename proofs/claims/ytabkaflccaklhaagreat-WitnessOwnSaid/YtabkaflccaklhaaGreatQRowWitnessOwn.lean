/- THE ROW of quitclaimlaw09.WitnessOwn: for every input the law returns true, and each argument reads behind the call as it read before. -/
import Derived.Test.YtabkaflccaklhaaGreatRows
import Derived.Test.YtabkaflccaklhaaGreatQWitT
import Derived.Test.YtabkaflccaklhaaGreatQRowW
import Derived.Test.YtabkaflccaklhaaGreatQRowFacts
import Derived.Test.YtabkaflccaklhaaGreatQIdx1
set_option linter.unusedSimpArgs false
set_option linter.unusedVariables false
namespace Go.Proofs.YtabkaflccaklhaaGreat.RowWitnessOwn
open Go.ChangeShapes Go.WideShapes Go.ChangeAt Go.RowKit Go.Qk
open Go.ChangeMaps (open_string shut_string)
set_option linter.unusedVariables false
set_option maxRecDepth 100000 in
theorem lifted (os : Os) (started : os.Started) (H : Type) (enc : TypeId × Value → H) :
    ReturnsInHanded {} Tryz.checked os 4 .any (Rows.witnessOwnSpec.pre6 enc Tryz.prog Tryz.f4 Rows.witnessOwnRow.domain false) (Rows.witnessOwnSpec.post enc Tryz.prog Tryz.f4 false true false false) := by
  refine returnsInHanded_of_change_sized (C := Tryz.checked) pOwn started (by kernel_rfl) Tryz.func4
    (ChangeSpec.witness6 (enc := enc) (C := Tryz.checked) false ⟨#[], #[.int .u8 0, .string ByteArray.empty, .slice none 0 0, .int .u8 0, idV (List.replicate 32 0)], []⟩ 64 (by kernel_rfl) (by kernel_rfl) (by kernel_rfl) (by kernel_rfl)) ?_
  intro W base args ds gs before hval0 hW hcnd hsz0 _
  have hsz : (DataW.weightsEach Tryz.prog (Tryz.f4.params.toList ++ Rows.witnessOwnSpec.plain.varTypes Tryz.prog) (ds ++ gs)).all (· ≤ reachBytes) = true := hsz0
  have hval : ∀ (j : Nat) t v, Tryz.f4.params[j]? = some t → args[j]? = some v → Value.okWide Tryz.prog W .any base t v := hval0
  have hW' := hW
  obtain ⟨p, q, hA0, hV, rfl, hfz, hnd⟩ := hW
  have hA : DataW.TrodAll enc Tryz.prog W 0 (fun _ => true) true Tryz.f4.params.toList args.toList ds p := hA0
  rw [Tryz.params4] at hA hval hsz
  obtain ⟨v0, vs0, d0, ds0, p0, q0, hargs, rfl, rfl, h0, r0⟩ := trodAll_cons hA
  obtain ⟨v1, vs1, d1, ds1, p1, q1, rfl, rfl, rfl, h1, r1⟩ := trodAll_cons r0
  obtain ⟨v2, vs2, d2, ds2, p2, q2, rfl, rfl, rfl, h2, r2⟩ := trodAll_cons r1
  obtain ⟨v3, vs3, d3, ds3, p3, q3, rfl, rfl, rfl, h3, r3⟩ := trodAll_cons r2
  obtain ⟨v4, vs4, d4, ds4, p4, q4, rfl, rfl, rfl, h4, r4⟩ := trodAll_cons r3
  obtain ⟨rfl, rfl, rfl⟩ := trodAll_nil r4
  obtain rfl : args = #[v0, v1, v2, v3, v4] := by cases args; simp_all
  obtain ⟨rfl, rfl⟩ := trodVars_none hV
  obtain ⟨a0, rfl, rfl, rfl, w0⟩ := open_int Tryz.underlying5 (hval 0 5 v0 rfl rfl) h0
  obtain ⟨a1, rfl, rfl, rfl, y1⟩ := open_string Tryz.underlying9 (hval 1 9 v1 rfl rfl) h1
  have w1 : a1.size ≤ 140737488351232 := by
    have z := sized_string hsz (j := 1) (t := 9) rfl rfl
    rw [Array.length_toList] at z
    exact z
  obtain ⟨a2, len2, cap2, rfl⟩ := okWide_slice Tryz.underlying52 (hval 2 52 v2 rfl rfl)
  have k2 := h2
  have lt2 : ∀ x ∈ p2, x.block < W.heap.size := by obtain ⟨m, hm⟩ := k2; exact DataW.trod_lt m _ _ _ hm
  obtain ⟨x2, s2, n2, m2, _⟩ := (by obtain ⟨fuel, hf⟩ := h2; exact open_wrs hf : ∃ l, WrRow W a2 l ∧ l.length = len2 ∧ (∀ x ∈ l, x.2.length = 32) ∧ (len2 = 0 ∨ ∃ el sp', d2 = .slice el sp' ∧ el.length = len2))
  obtain ⟨a3, rfl, rfl, rfl, w3⟩ := open_int Tryz.underlying5 (hval 3 5 v3 rfl rfl) h3
  have k4 := h4
  obtain ⟨x4, rfl, n4, e4⟩ := open_id Tryz.underlying42 Tryz.underlying5 (by kernel_rfl) (by kernel_rfl) (hval 4 42 v4 rfl rfl) h4
  have lt4 : ∀ x ∈ p4, x.block < W.heap.size := by rw [e4]; intro x hx; cases hx
  clear hA0 hval0 hsz0 hsz
  refine (witnessOwn a0 w0 a1 w1 a2 len2 cap2 x2 a3 w3 x4 n4 W s2 n2 m2).mono fun e W' ⟨he, bel⟩ => ?_
  subst he
  exact ⟨_, rfl, _, _, _, [], _, [], hW', trodAll_mk1 (shut_bool Tryz.underlying4 _), (trodAll_cons_mk (shut_int Tryz.underlying5 w0) (trodAll_cons_mk (shut_string Tryz.underlying9 y1) (trodAll_cons_mk (Below.trod pLaid (by kernel_rfl) (of_decide_eq_true (by kernel_rfl)) k2 bel lt2) (trodAll_cons_mk (shut_int Tryz.underlying5 w3) (trodAll_cons_mk (Below.trod pLaid (by kernel_rfl) (of_decide_eq_true (by kernel_rfl)) k4 bel lt4) trodAll_mk0))))), rfl, bel.frame _, fun h => by cases h⟩
theorem k1 : Rows.witnessOwnRow.wf (OpenSpec.ofChange Rows.witnessOwnSpec) = true := by kernel_rfl
theorem k4 : Tryz.f4.params.all (Tryz.prog.readableRec ·) = true := by kernel_rfl
theorem k5 : namedTie Tryz.prog Rows.witnessOwnRow.named Rows.witnessOwnSpec.vars = true := by kernel_rfl
theorem k6 : (Rows.witnessOwnRow.stops == []) = true := by kernel_rfl
theorem k8 : (Rows.witnessOwnRow.knobs == []) = true := by kernel_rfl
theorem k10 : (Rows.witnessOwnRow.inPlace == Tryz.prog.inPlace 4) = true := by kernel_rfl
theorem k11 : (Rows.witnessOwnRow.unfollowed == Tryz.prog.unfollowed 4) = true := by kernel_rfl
theorem k12 : (Rows.witnessOwnRow.recurses == Tryz.prog.recurses 4) = true := by kernel_rfl
theorem k13 : (Rows.witnessOwnRow.named == Tryz.prog.varsNamed 4) = true := by kernel_rfl
theorem k14 : (Rows.witnessOwnRow.maps == (Tryz.f4.params.toList ++ Rows.witnessOwnSpec.plain.varTypes Tryz.prog).any (Tryz.prog.mapsRec ·)) = true := by kernel_rfl
theorem k15 : (Rows.witnessOwnRow.ifaces == (Tryz.f4.params.toList ++ Rows.witnessOwnSpec.plain.varTypes Tryz.prog).any (Tryz.prog.ifacesRec ·)) = true := by kernel_rfl
theorem k16 : (Rows.witnessOwnRow.mapsOut == Tryz.prog.mapsAmong Tryz.f4.resultTypes.toList) = true := by kernel_rfl
theorem k17 : (Rows.witnessOwnRow.loops == (Tryz.f4.params.toList ++ Rows.witnessOwnSpec.plain.varTypes Tryz.prog).any (Tryz.prog.loopsFrom ·)) = true := by kernel_rfl
theorem k18 : (Rows.witnessOwnRow.wideKeys == (Tryz.f4.params.toList ++ Rows.witnessOwnSpec.plain.varTypes Tryz.prog ++ Tryz.f4.resultTypes.toList).any (Tryz.prog.wideKeysFrom ·)) = true := by kernel_rfl
theorem k19 : Rows.witnessOwnSpec.vars.all (Tryz.prog.varReadable ·) = true := by kernel_rfl
theorem k20 : Tryz.f4.resultTypes.all (fun t => Tryz.prog.readableRec t && decide (t < Tryz.prog.types.size)) = true := by kernel_rfl
theorem k21 : (Rows.witnessOwnRow.ifacesOut == Tryz.f4.resultTypes.toList.any (Tryz.prog.ifacesRec ·)) = true := by kernel_rfl
theorem k22 : (Rows.witnessOwnRow.loopsOut == Tryz.f4.resultTypes.toList.any (Tryz.prog.loopsFrom ·)) = true := by kernel_rfl
theorem k23 : (Rows.witnessOwnRow.plainKeys == Tryz.prog.plainKeys) = true := by kernel_rfl
theorem k24 : Rows.witnessOwnRow.shortTexts.isNone = true := by kernel_rfl
theorem k28 : (Tryz.prog.make == some Rows.witnessOwnRow.make) = true := by kernel_rfl
theorem k30 : (Rows.witnessOwnRow.pinned == Rows.witnessOwnRow.pinnedBy) = true := by kernel_rfl
theorem k31 : (Rows.witnessOwnRow.veiled == (Tryz.f4.params.toList ++ Rows.witnessOwnSpec.plain.varTypes Tryz.prog ++ Tryz.f4.resultTypes.toList).any (Tryz.prog.veiledRec ·)) = true := by kernel_rfl
theorem k32 : Rows.witnessOwnRow.veiledFits Tryz.prog Tryz.f4.params.toList (Tryz.f4.params.toList ++ Rows.witnessOwnSpec.plain.varTypes Tryz.prog ++ Tryz.f4.resultTypes.toList) = true := by kernel_rfl
theorem k27 : (Rows.witnessOwnRow.lifted == Tryz.prog.liftsFinal) = true := pLifts
theorem closed : joinedFacts Tryz.prog 4 Tryz.f4 Rows.witnessOwnSpec Rows.witnessOwnRow = true := by
  simp only [joinedFacts, pLaid, pMaps, pStops, pKnobs, pHeard, pEnter, k27, k1, k4, k5, k6, k8, k10, k11, k12, k13, k14, k15, k16, k17, k18, k19, k20, k21, k22, k23, k24, k28, k30, k31, k32, Bool.and_true, Bool.true_and]
  kernel_rfl
theorem isNamed : Tryz.prog.funcNamed Rows.witnessOwnRow.func = some 4 := by kernel_rfl
theorem isInst : Tryz.f4.isInstance Tryz.prog Rows.witnessOwnRow.origin Rows.witnessOwnRow.targs := of_decide_eq_true (by kernel_rfl)
theorem isWrap : Tryz.f4.isWrapper Tryz.prog Rows.witnessOwnRow.wrapper Rows.witnessOwnRow.mainSum := by unfold Func.isWrapper; first | (rw [if_pos (by decide +kernel)]; kernel_rfl) | (rw [if_neg (by decide +kernel)]; exact ⟨rfl, rfl⟩)
theorem over : Rows.witnessOwnRow.holds Tryz.pinned (OpenSpec.ofChange Rows.witnessOwnSpec) :=
  OpenClaim.holds_of_wide 4 Tryz.f4 rfl rfl rfl rfl rfl rfl rfl ⟨rfl, rfl, rfl, rfl, rfl⟩ rfl rfl rfl rfl rfl isNamed Tryz.func4 closed isInst isWrap
    (fun os started H enc _ => lifted os started H enc)
end Go.Proofs.YtabkaflccaklhaaGreat.RowWitnessOwn
namespace Go.Proofs.YtabkaflccaklhaaGreat
/-- The row, under a short name. -/
theorem witnessOwn_holds : Rows.WitnessOwnSaid := RowWitnessOwn.over
#print axioms witnessOwn_holds
end Go.Proofs.YtabkaflccaklhaaGreat
