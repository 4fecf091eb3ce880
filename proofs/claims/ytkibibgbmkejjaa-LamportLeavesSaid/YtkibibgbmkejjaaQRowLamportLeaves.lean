/- THE ROW of quitclaimlaw06.LamportLeaves: for every input the law returns true, and each argument reads behind the call as it read before. -/
import Derived.Test.YtkibibgbmkejjaaRows
import Derived.Test.YtkibibgbmkejjaaQLam5
import Derived.Test.YtkibibgbmkejjaaQRowFacts
set_option linter.unusedSimpArgs false
set_option linter.unusedVariables false
namespace Go.Proofs.Ytkibibgbmkejjaa.RowLamportLeaves
open Go.ChangeShapes Go.WideShapes Go.ChangeAt Go.RowKit Go.Qk
open Go.ChangeMaps (open_string shut_string)
set_option linter.unusedVariables false
set_option maxRecDepth 100000 in
theorem lifted (os : Os) (started : os.Started) (H : Type) (enc : TypeId × Value → H) :
    ReturnsInHanded {} Try.checked os 8 .any (Rows.lamportLeavesSpec.pre6 enc Try.prog Try.f8 Rows.lamportLeavesRow.domain false) (Rows.lamportLeavesSpec.post enc Try.prog Try.f8 false true false false) := by
  refine returnsInHanded_of_change_sized (C := Try.checked) pOwn started (by kernel_rfl) Try.func8
    (ChangeSpec.witness6 (enc := enc) (C := Try.checked) false ⟨#[], #[.string ByteArray.empty, .int .i64 0, .int .i64 0], []⟩ 64 (by kernel_rfl) (by kernel_rfl) (by kernel_rfl) (by kernel_rfl)) ?_
  intro W base args ds gs before hval0 hW hcnd hsz0 _
  have hsz : (DataW.weightsEach Try.prog (Try.f8.params.toList ++ Rows.lamportLeavesSpec.plain.varTypes Try.prog) (ds ++ gs)).all (· ≤ reachBytes) = true := hsz0
  have hval : ∀ (j : Nat) t v, Try.f8.params[j]? = some t → args[j]? = some v → Value.okWide Try.prog W .any base t v := hval0
  have hW' := hW
  obtain ⟨p, q, hA0, hV, rfl, hfz, hnd⟩ := hW
  have hA : DataW.TrodAll enc Try.prog W 0 (fun _ => true) true Try.f8.params.toList args.toList ds p := hA0
  rw [Try.params8] at hA hval hsz
  obtain ⟨v0, vs0, d0, ds0, p0, q0, hargs, rfl, rfl, h0, r0⟩ := trodAll_cons hA
  obtain ⟨v1, vs1, d1, ds1, p1, q1, rfl, rfl, rfl, h1, r1⟩ := trodAll_cons r0
  obtain ⟨v2, vs2, d2, ds2, p2, q2, rfl, rfl, rfl, h2, r2⟩ := trodAll_cons r1
  obtain ⟨rfl, rfl, rfl⟩ := trodAll_nil r2
  obtain rfl : args = #[v0, v1, v2] := by cases args; simp_all
  obtain ⟨rfl, rfl⟩ := trodVars_none hV
  obtain ⟨a0, rfl, rfl, rfl, y0⟩ := open_string Try.underlying9 (hval 0 9 v0 rfl rfl) h0
  have w0 : a0.size ≤ 140737488351232 := by
    have z := sized_string hsz (j := 0) (t := 9) rfl rfl
    rw [Array.length_toList] at z
    exact z
  obtain ⟨a1, rfl, rfl, rfl, w1⟩ := open_int Try.underlying3 (hval 1 3 v1 rfl rfl) h1
  obtain ⟨a2, rfl, rfl, rfl, w2⟩ := open_int Try.underlying3 (hval 2 3 v2 rfl rfl) h2
  clear hA0 hval0 hsz0 hsz
  refine (lamportLeaves a0 w0 a1 a2 (wf_hi w1) W).mono fun e W' ⟨he, bel⟩ => ?_
  subst he
  exact ⟨_, rfl, _, _, _, [], _, [], hW', trodAll_mk1 (shut_bool Try.underlying4 _), (trodAll_cons_mk (shut_string Try.underlying9 y0) (trodAll_cons_mk (shut_int Try.underlying3 w1) (trodAll_cons_mk (shut_int Try.underlying3 w2) trodAll_mk0))), rfl, bel.frame _, fun h => by cases h⟩
theorem k1 : Rows.lamportLeavesRow.wf (OpenSpec.ofChange Rows.lamportLeavesSpec) = true := by kernel_rfl
theorem k4 : Try.f8.params.all (Try.prog.readableRec ·) = true := by kernel_rfl
theorem k5 : namedTie Try.prog Rows.lamportLeavesRow.named Rows.lamportLeavesSpec.vars = true := by kernel_rfl
theorem k6 : (Rows.lamportLeavesRow.stops == []) = true := by kernel_rfl
theorem k8 : (Rows.lamportLeavesRow.knobs == []) = true := by kernel_rfl
theorem k10 : (Rows.lamportLeavesRow.inPlace == Try.prog.inPlace 8) = true := by kernel_rfl
theorem k11 : (Rows.lamportLeavesRow.unfollowed == Try.prog.unfollowed 8) = true := by kernel_rfl
theorem k12 : (Rows.lamportLeavesRow.recurses == Try.prog.recurses 8) = true := by kernel_rfl
theorem k13 : (Rows.lamportLeavesRow.named == Try.prog.varsNamed 8) = true := by kernel_rfl
theorem k14 : (Rows.lamportLeavesRow.maps == (Try.f8.params.toList ++ Rows.lamportLeavesSpec.plain.varTypes Try.prog).any (Try.prog.mapsRec ·)) = true := by kernel_rfl
theorem k15 : (Rows.lamportLeavesRow.ifaces == (Try.f8.params.toList ++ Rows.lamportLeavesSpec.plain.varTypes Try.prog).any (Try.prog.ifacesRec ·)) = true := by kernel_rfl
theorem k16 : (Rows.lamportLeavesRow.mapsOut == Try.prog.mapsAmong Try.f8.resultTypes.toList) = true := by kernel_rfl
theorem k17 : (Rows.lamportLeavesRow.loops == (Try.f8.params.toList ++ Rows.lamportLeavesSpec.plain.varTypes Try.prog).any (Try.prog.loopsFrom ·)) = true := by kernel_rfl
theorem k18 : (Rows.lamportLeavesRow.wideKeys == (Try.f8.params.toList ++ Rows.lamportLeavesSpec.plain.varTypes Try.prog ++ Try.f8.resultTypes.toList).any (Try.prog.wideKeysFrom ·)) = true := by kernel_rfl
theorem k19 : Rows.lamportLeavesSpec.vars.all (Try.prog.varReadable ·) = true := by kernel_rfl
theorem k20 : Try.f8.resultTypes.all (fun t => Try.prog.readableRec t && decide (t < Try.prog.types.size)) = true := by kernel_rfl
theorem k21 : (Rows.lamportLeavesRow.ifacesOut == Try.f8.resultTypes.toList.any (Try.prog.ifacesRec ·)) = true := by kernel_rfl
theorem k22 : (Rows.lamportLeavesRow.loopsOut == Try.f8.resultTypes.toList.any (Try.prog.loopsFrom ·)) = true := by kernel_rfl
theorem k23 : (Rows.lamportLeavesRow.plainKeys == Try.prog.plainKeys) = true := by kernel_rfl
theorem k24 : Rows.lamportLeavesRow.shortTexts.isNone = true := by kernel_rfl
theorem k28 : (Try.prog.make == some Rows.lamportLeavesRow.make) = true := by kernel_rfl
theorem k30 : (Rows.lamportLeavesRow.pinned == Rows.lamportLeavesRow.pinnedBy) = true := by kernel_rfl
theorem k31 : (Rows.lamportLeavesRow.veiled == (Try.f8.params.toList ++ Rows.lamportLeavesSpec.plain.varTypes Try.prog ++ Try.f8.resultTypes.toList).any (Try.prog.veiledRec ·)) = true := by kernel_rfl
theorem k32 : Rows.lamportLeavesRow.veiledFits Try.prog Try.f8.params.toList (Try.f8.params.toList ++ Rows.lamportLeavesSpec.plain.varTypes Try.prog ++ Try.f8.resultTypes.toList) = true := by kernel_rfl
theorem k27 : (Rows.lamportLeavesRow.lifted == Try.prog.liftsFinal) = true := pLifts
theorem closed : joinedFacts Try.prog 8 Try.f8 Rows.lamportLeavesSpec Rows.lamportLeavesRow = true := by
  simp only [joinedFacts, pLaid, pMaps, pStops, pKnobs, pHeard, pEnter, k27, k1, k4, k5, k6, k8, k10, k11, k12, k13, k14, k15, k16, k17, k18, k19, k20, k21, k22, k23, k24, k28, k30, k31, k32, Bool.and_true, Bool.true_and]
  kernel_rfl
theorem isNamed : Try.prog.funcNamed Rows.lamportLeavesRow.func = some 8 := by kernel_rfl
theorem isInst : Try.f8.isInstance Try.prog Rows.lamportLeavesRow.origin Rows.lamportLeavesRow.targs := of_decide_eq_true (by kernel_rfl)
theorem isWrap : Try.f8.isWrapper Try.prog Rows.lamportLeavesRow.wrapper Rows.lamportLeavesRow.mainSum := by unfold Func.isWrapper; first | (rw [if_pos (by decide +kernel)]; kernel_rfl) | (rw [if_neg (by decide +kernel)]; exact ⟨rfl, rfl⟩)
theorem over : Rows.lamportLeavesRow.holds Try.pinned (OpenSpec.ofChange Rows.lamportLeavesSpec) :=
  OpenClaim.holds_of_wide 8 Try.f8 rfl rfl rfl rfl rfl rfl rfl ⟨rfl, rfl, rfl, rfl, rfl⟩ rfl rfl rfl rfl rfl isNamed Try.func8 closed isInst isWrap
    (fun os started H enc _ => lifted os started H enc)
end Go.Proofs.Ytkibibgbmkejjaa.RowLamportLeaves
namespace Go.Proofs.Ytkibibgbmkejjaa
/-- The row, under a short name. -/
theorem lamportLeaves_holds : Rows.LamportLeavesSaid := RowLamportLeaves.over
#print axioms lamportLeaves_holds
end Go.Proofs.Ytkibibgbmkejjaa
