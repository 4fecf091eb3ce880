/- THE ROW of quitclaimlaw09.WitnessParams: for every input the law returns true, and each argument reads behind the call as it read before. -/
import Derived.Test.YtabkaflccaklhaaRows
import Derived.Test.YtabkaflccaklhaaQWitB
import Derived.Test.YtabkaflccaklhaaQRowFacts
import Derived.Test.YtabkaflccaklhaaQRowC
import Derived.Test.YtabkaflccaklhaaQRowS
import Derived.Test.YtabkaflccaklhaaQIdx1
set_option linter.unusedSimpArgs false
set_option linter.unusedVariables false
namespace Go.Proofs.Ytabkaflccaklhaa.RowWitnessParams
open Go.ChangeShapes Go.WideShapes Go.ChangeAt Go.RowKit Go.Qk
open Go.ChangeMaps (open_string shut_string)
set_option linter.unusedVariables false
set_option maxRecDepth 100000 in
theorem lifted (os : Os) (started : os.Started) (H : Type) (enc : TypeId × Value → H) :
    ReturnsInHanded {} Try.checked os 10 .any (Rows.witnessParamsSpec.pre6 enc Try.prog Try.f10 Rows.witnessParamsRow.domain false) (Rows.witnessParamsSpec.post enc Try.prog Try.f10 false true false false) := by
  refine returnsInHanded_of_change_sized (C := Try.checked) pOwn started (by kernel_rfl) Try.func10
    (ChangeSpec.witness6 (enc := enc) (C := Try.checked) false ⟨#[], #[.agg #[.int .i64 0, .int .i64 0], .string ByteArray.empty, idV (List.replicate 32 0), .agg #[.int .i64 0, .slice none 0 0, .slice none 0 0, .slice none 0 0]], []⟩ 64 (by kernel_rfl) (by kernel_rfl) (by kernel_rfl) (by kernel_rfl)) ?_
  intro W base args ds gs before hval0 hW hcnd hsz0 _
  have hsz : (DataW.weightsEach Try.prog (Try.f10.params.toList ++ Rows.witnessParamsSpec.plain.varTypes Try.prog) (ds ++ gs)).all (· ≤ reachBytes) = true := hsz0
  have hval : ∀ (j : Nat) t v, Try.f10.params[j]? = some t → args[j]? = some v → Value.okWide Try.prog W .any base t v := hval0
  have hW' := hW
  obtain ⟨p, q, hA0, hV, rfl, hfz, hnd⟩ := hW
  have hA : DataW.TrodAll enc Try.prog W 0 (fun _ => true) true Try.f10.params.toList args.toList ds p := hA0
  rw [Try.params10] at hA hval hsz
  obtain ⟨v0, vs0, d0, ds0, p0, q0, hargs, rfl, rfl, h0, r0⟩ := trodAll_cons hA
  obtain ⟨v1, vs1, d1, ds1, p1, q1, rfl, rfl, rfl, h1, r1⟩ := trodAll_cons r0
  obtain ⟨v2, vs2, d2, ds2, p2, q2, rfl, rfl, rfl, h2, r2⟩ := trodAll_cons r1
  obtain ⟨v3, vs3, d3, ds3, p3, q3, rfl, rfl, rfl, h3, r3⟩ := trodAll_cons r2
  obtain ⟨rfl, rfl, rfl⟩ := trodAll_nil r3
  obtain rfl : args = #[v0, v1, v2, v3] := by cases args; simp_all
  obtain ⟨rfl, rfl⟩ := trodVars_none hV
  have k0 := h0
  obtain ⟨a0, c0, rfl, w0, u0, e0⟩ := open_two Try.underlying92 (by kernel_rfl) (by kernel_rfl) Try.underlying3 Try.underlying3 (hval 0 92 v0 rfl rfl) h0
  have lt0 : ∀ x ∈ p0, x.block < W.heap.size := by rw [e0]; intro x hx; cases hx
  obtain ⟨a1, rfl, rfl, rfl, y1⟩ := open_string Try.underlying9 (hval 1 9 v1 rfl rfl) h1
  have w1 : a1.size ≤ 140737488351232 := by
    have z := sized_string hsz (j := 1) (t := 9) rfl rfl
    rw [Array.length_toList] at z
    exact z
  have k2 := h2
  obtain ⟨x2, rfl, n2, e2⟩ := open_id Try.underlying25 Try.underlying5 (by kernel_rfl) (by kernel_rfl) (hval 2 25 v2 rfl rfl) h2
  have lt2 : ∀ x ∈ p2, x.block < W.heap.size := by rw [e2]; intro x hx; cases hx
  have k3 := h3
  obtain ⟨leaf3, A3, B3, C3, n3, m3, k3_, c3, d3_, e3, xs3, ys3, zs3, rfl, w3, ⟨qa3, qb3, qc3, qd3⟩, ⟨ra3, rb3, rc3, rd3⟩, ⟨ta3, tb3, tc3, td3⟩⟩ := open_sig Try.underlying49 (by kernel_rfl) (by kernel_rfl) Try.underlying3 Try.underlying47 Try.underlying47 Try.underlying47 Try.underlying25 (by kernel_rfl) Try.underlying5 (by kernel_rfl) (hval 3 49 v3 rfl rfl) h3
  have lt3 : ∀ x ∈ p3, x.block < W.heap.size := by obtain ⟨m, hm⟩ := k3; exact DataW.trod_lt m _ _ _ hm
  clear hA0 hval0 hsz0 hsz
  refine (witnessParams a0 c0 a1 w1 x2 n2 leaf3 A3 B3 C3 n3 m3 k3_ c3 d3_ e3 (by rw [← qb3]; exact qa3.1) W).mono fun e W' ⟨he, bel⟩ => ?_
  subst he
  exact ⟨_, rfl, _, _, _, [], _, [], hW', trodAll_mk1 (shut_bool Try.underlying4 _), (trodAll_cons_mk (Below.trod pLaid (by kernel_rfl) (of_decide_eq_true (by kernel_rfl)) k0 bel lt0) (trodAll_cons_mk (shut_string Try.underlying9 y1) (trodAll_cons_mk (Below.trod pLaid (by kernel_rfl) (of_decide_eq_true (by kernel_rfl)) k2 bel lt2) (trodAll_cons_mk (Below.trod pLaid (by kernel_rfl) (of_decide_eq_true (by kernel_rfl)) k3 bel lt3) trodAll_mk0)))), rfl, bel.frame _, fun h => by cases h⟩
theorem k1 : Rows.witnessParamsRow.wf (OpenSpec.ofChange Rows.witnessParamsSpec) = true := by kernel_rfl
theorem k4 : Try.f10.params.all (Try.prog.readableRec ·) = true := by kernel_rfl
theorem k5 : namedTie Try.prog Rows.witnessParamsRow.named Rows.witnessParamsSpec.vars = true := by kernel_rfl
theorem k6 : (Rows.witnessParamsRow.stops == []) = true := by kernel_rfl
theorem k8 : (Rows.witnessParamsRow.knobs == []) = true := by kernel_rfl
theorem k10 : (Rows.witnessParamsRow.inPlace == Try.prog.inPlace 10) = true := by kernel_rfl
theorem k11 : (Rows.witnessParamsRow.unfollowed == Try.prog.unfollowed 10) = true := by kernel_rfl
theorem k12 : (Rows.witnessParamsRow.recurses == Try.prog.recurses 10) = true := by kernel_rfl
theorem k13 : (Rows.witnessParamsRow.named == Try.prog.varsNamed 10) = true := by kernel_rfl
theorem k14 : (Rows.witnessParamsRow.maps == (Try.f10.params.toList ++ Rows.witnessParamsSpec.plain.varTypes Try.prog).any (Try.prog.mapsRec ·)) = true := by kernel_rfl
theorem k15 : (Rows.witnessParamsRow.ifaces == (Try.f10.params.toList ++ Rows.witnessParamsSpec.plain.varTypes Try.prog).any (Try.prog.ifacesRec ·)) = true := by kernel_rfl
theorem k16 : (Rows.witnessParamsRow.mapsOut == Try.prog.mapsAmong Try.f10.resultTypes.toList) = true := by kernel_rfl
theorem k17 : (Rows.witnessParamsRow.loops == (Try.f10.params.toList ++ Rows.witnessParamsSpec.plain.varTypes Try.prog).any (Try.prog.loopsFrom ·)) = true := by kernel_rfl
theorem k18 : (Rows.witnessParamsRow.wideKeys == (Try.f10.params.toList ++ Rows.witnessParamsSpec.plain.varTypes Try.prog ++ Try.f10.resultTypes.toList).any (Try.prog.wideKeysFrom ·)) = true := by kernel_rfl
theorem k19 : Rows.witnessParamsSpec.vars.all (Try.prog.varReadable ·) = true := by kernel_rfl
theorem k20 : Try.f10.resultTypes.all (fun t => Try.prog.readableRec t && decide (t < Try.prog.types.size)) = true := by kernel_rfl
theorem k21 : (Rows.witnessParamsRow.ifacesOut == Try.f10.resultTypes.toList.any (Try.prog.ifacesRec ·)) = true := by kernel_rfl
theorem k22 : (Rows.witnessParamsRow.loopsOut == Try.f10.resultTypes.toList.any (Try.prog.loopsFrom ·)) = true := by kernel_rfl
theorem k23 : (Rows.witnessParamsRow.plainKeys == Try.prog.plainKeys) = true := by kernel_rfl
theorem k24 : Rows.witnessParamsRow.shortTexts.isNone = true := by kernel_rfl
theorem k28 : (Try.prog.make == some Rows.witnessParamsRow.make) = true := by kernel_rfl
theorem k30 : (Rows.witnessParamsRow.pinned == Rows.witnessParamsRow.pinnedBy) = true := by kernel_rfl
theorem k31 : (Rows.witnessParamsRow.veiled == (Try.f10.params.toList ++ Rows.witnessParamsSpec.plain.varTypes Try.prog ++ Try.f10.resultTypes.toList).any (Try.prog.veiledRec ·)) = true := by kernel_rfl
theorem k32 : Rows.witnessParamsRow.veiledFits Try.prog Try.f10.params.toList (Try.f10.params.toList ++ Rows.witnessParamsSpec.plain.varTypes Try.prog ++ Try.f10.resultTypes.toList) = true := by kernel_rfl
theorem k27 : (Rows.witnessParamsRow.lifted == Try.prog.liftsFinal) = true := pLifts
theorem closed : joinedFacts Try.prog 10 Try.f10 Rows.witnessParamsSpec Rows.witnessParamsRow = true := by
  simp only [joinedFacts, pLaid, pMaps, pStops, pKnobs, pHeard, pEnter, k27, k1, k4, k5, k6, k8, k10, k11, k12, k13, k14, k15, k16, k17, k18, k19, k20, k21, k22, k23, k24, k28, k30, k31, k32, Bool.and_true, Bool.true_and]
  kernel_rfl
theorem isNamed : Try.prog.funcNamed Rows.witnessParamsRow.func = some 10 := by kernel_rfl
theorem isInst : Try.f10.isInstance Try.prog Rows.witnessParamsRow.origin Rows.witnessParamsRow.targs := of_decide_eq_true (by kernel_rfl)
theorem isWrap : Try.f10.isWrapper Try.prog Rows.witnessParamsRow.wrapper Rows.witnessParamsRow.mainSum := by unfold Func.isWrapper; first | (rw [if_pos (by decide +kernel)]; kernel_rfl) | (rw [if_neg (by decide +kernel)]; exact ⟨rfl, rfl⟩)
theorem over : Rows.witnessParamsRow.holds Try.pinned (OpenSpec.ofChange Rows.witnessParamsSpec) :=
  OpenClaim.holds_of_wide 10 Try.f10 rfl rfl rfl rfl rfl rfl rfl ⟨rfl, rfl, rfl, rfl, rfl⟩ rfl rfl rfl rfl rfl isNamed Try.func10 closed isInst isWrap
    (fun os started H enc _ => lifted os started H enc)
end Go.Proofs.Ytabkaflccaklhaa.RowWitnessParams
namespace Go.Proofs.Ytabkaflccaklhaa
/-- The row, under a short name. -/
theorem witnessParams_holds : Rows.WitnessParamsSaid := RowWitnessParams.over
#print axioms witnessParams_holds
end Go.Proofs.Ytabkaflccaklhaa
