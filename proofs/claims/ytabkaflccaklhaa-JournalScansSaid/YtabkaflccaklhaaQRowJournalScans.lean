/- THE ROW of quitclaimlaw25.JournalScans: for every input the law returns true, and each argument reads behind the call as it read before. -/
import Derived.Test.YtabkaflccaklhaaRows
import Derived.Test.YtabkaflccaklhaaQJouI
import Derived.Test.YtabkaflccaklhaaQRowFacts
set_option linter.unusedSimpArgs false
set_option linter.unusedVariables false
namespace Go.Proofs.Ytabkaflccaklhaa.RowJournalScans
open Go.ChangeShapes Go.WideShapes Go.ChangeAt Go.RowKit Go.Qk
open Go.ChangeMaps (open_string shut_string)
set_option linter.unusedVariables false
set_option maxRecDepth 100000 in
theorem lifted (os : Os) (started : os.Started) (H : Type) (enc : TypeId × Value → H) :
    ReturnsInHanded {} Try.checked os 3 .any (Rows.journalScansSpec.pre6 enc Try.prog Try.f3 Rows.journalScansRow.domain false) (Rows.journalScansSpec.post enc Try.prog Try.f3 false true false false) := by
  refine returnsInHanded_of_change_sized (C := Try.checked) pOwn started (by kernel_rfl) Try.func3
    (ChangeSpec.witness6 (enc := enc) (C := Try.checked) false ⟨#[], #[.string ByteArray.empty], []⟩ 64 (by kernel_rfl) (by kernel_rfl) (by kernel_rfl) (by kernel_rfl)) ?_
  intro W base args ds gs before hval0 hW hcnd hsz0 _
  have hsz : (DataW.weightsEach Try.prog (Try.f3.params.toList ++ Rows.journalScansSpec.plain.varTypes Try.prog) (ds ++ gs)).all (· ≤ reachBytes) = true := hsz0
  have hval : ∀ (j : Nat) t v, Try.f3.params[j]? = some t → args[j]? = some v → Value.okWide Try.prog W .any base t v := hval0
  have hW' := hW
  obtain ⟨p, q, hA0, hV, rfl, hfz, hnd⟩ := hW
  have hA : DataW.TrodAll enc Try.prog W 0 (fun _ => true) true Try.f3.params.toList args.toList ds p := hA0
  rw [Try.params3] at hA hval hsz
  obtain ⟨v0, vs0, d0, ds0, p0, q0, hargs, rfl, rfl, h0, r0⟩ := trodAll_cons hA
  obtain ⟨rfl, rfl, rfl⟩ := trodAll_nil r0
  obtain rfl : args = #[v0] := by cases args; simp_all
  obtain ⟨rfl, rfl⟩ := trodVars_none hV
  obtain ⟨a0, rfl, rfl, rfl, y0⟩ := open_string Try.underlying9 (hval 0 9 v0 rfl rfl) h0
  have w0 : a0.size ≤ 140737488351232 := by
    have z := sized_string hsz (j := 0) (t := 9) rfl rfl
    rw [Array.length_toList] at z
    exact z
  clear hA0 hval0 hsz0 hsz
  refine (journalScansB a0 w0 W).mono fun e W' ⟨he, bel⟩ => ?_
  subst he
  exact ⟨_, rfl, _, _, _, [], _, [], hW', trodAll_mk1 (shut_bool Try.underlying4 _), (trodAll_cons_mk (shut_string Try.underlying9 y0) trodAll_mk0), rfl, bel.frame _, fun h => by cases h⟩
theorem k1 : Rows.journalScansRow.wf (OpenSpec.ofChange Rows.journalScansSpec) = true := by kernel_rfl
theorem k4 : Try.f3.params.all (Try.prog.readableRec ·) = true := by kernel_rfl
theorem k5 : namedTie Try.prog Rows.journalScansRow.named Rows.journalScansSpec.vars = true := by kernel_rfl
theorem k6 : (Rows.journalScansRow.stops == []) = true := by kernel_rfl
theorem k8 : (Rows.journalScansRow.knobs == []) = true := by kernel_rfl
theorem k10 : (Rows.journalScansRow.inPlace == Try.prog.inPlace 3) = true := by kernel_rfl
theorem k11 : (Rows.journalScansRow.unfollowed == Try.prog.unfollowed 3) = true := by kernel_rfl
theorem k12 : (Rows.journalScansRow.recurses == Try.prog.recurses 3) = true := by kernel_rfl
theorem k13 : (Rows.journalScansRow.named == Try.prog.varsNamed 3) = true := by kernel_rfl
theorem k14 : (Rows.journalScansRow.maps == (Try.f3.params.toList ++ Rows.journalScansSpec.plain.varTypes Try.prog).any (Try.prog.mapsRec ·)) = true := by kernel_rfl
theorem k15 : (Rows.journalScansRow.ifaces == (Try.f3.params.toList ++ Rows.journalScansSpec.plain.varTypes Try.prog).any (Try.prog.ifacesRec ·)) = true := by kernel_rfl
theorem k16 : (Rows.journalScansRow.mapsOut == Try.prog.mapsAmong Try.f3.resultTypes.toList) = true := by kernel_rfl
theorem k17 : (Rows.journalScansRow.loops == (Try.f3.params.toList ++ Rows.journalScansSpec.plain.varTypes Try.prog).any (Try.prog.loopsFrom ·)) = true := by kernel_rfl
theorem k18 : (Rows.journalScansRow.wideKeys == (Try.f3.params.toList ++ Rows.journalScansSpec.plain.varTypes Try.prog ++ Try.f3.resultTypes.toList).any (Try.prog.wideKeysFrom ·)) = true := by kernel_rfl
theorem k19 : Rows.journalScansSpec.vars.all (Try.prog.varReadable ·) = true := by kernel_rfl
theorem k20 : Try.f3.resultTypes.all (fun t => Try.prog.readableRec t && decide (t < Try.prog.types.size)) = true := by kernel_rfl
theorem k21 : (Rows.journalScansRow.ifacesOut == Try.f3.resultTypes.toList.any (Try.prog.ifacesRec ·)) = true := by kernel_rfl
theorem k22 : (Rows.journalScansRow.loopsOut == Try.f3.resultTypes.toList.any (Try.prog.loopsFrom ·)) = true := by kernel_rfl
theorem k23 : (Rows.journalScansRow.plainKeys == Try.prog.plainKeys) = true := by kernel_rfl
theorem k24 : Rows.journalScansRow.shortTexts.isNone = true := by kernel_rfl
theorem k28 : (Try.prog.make == some Rows.journalScansRow.make) = true := by kernel_rfl
theorem k30 : (Rows.journalScansRow.pinned == Rows.journalScansRow.pinnedBy) = true := by kernel_rfl
theorem k31 : (Rows.journalScansRow.veiled == (Try.f3.params.toList ++ Rows.journalScansSpec.plain.varTypes Try.prog ++ Try.f3.resultTypes.toList).any (Try.prog.veiledRec ·)) = true := by kernel_rfl
theorem k32 : Rows.journalScansRow.veiledFits Try.prog Try.f3.params.toList (Try.f3.params.toList ++ Rows.journalScansSpec.plain.varTypes Try.prog ++ Try.f3.resultTypes.toList) = true := by kernel_rfl
theorem k27 : (Rows.journalScansRow.lifted == Try.prog.liftsFinal) = true := pLifts
theorem closed : joinedFacts Try.prog 3 Try.f3 Rows.journalScansSpec Rows.journalScansRow = true := by
  simp only [joinedFacts, pLaid, pMaps, pStops, pKnobs, pHeard, pEnter, k27, k1, k4, k5, k6, k8, k10, k11, k12, k13, k14, k15, k16, k17, k18, k19, k20, k21, k22, k23, k24, k28, k30, k31, k32, Bool.and_true, Bool.true_and]
  kernel_rfl
theorem isNamed : Try.prog.funcNamed Rows.journalScansRow.func = some 3 := by kernel_rfl
theorem isInst : Try.f3.isInstance Try.prog Rows.journalScansRow.origin Rows.journalScansRow.targs := of_decide_eq_true (by kernel_rfl)
theorem isWrap : Try.f3.isWrapper Try.prog Rows.journalScansRow.wrapper Rows.journalScansRow.mainSum := by unfold Func.isWrapper; first | (rw [if_pos (by decide +kernel)]; kernel_rfl) | (rw [if_neg (by decide +kernel)]; exact ⟨rfl, rfl⟩)
theorem over : Rows.journalScansRow.holds Try.pinned (OpenSpec.ofChange Rows.journalScansSpec) :=
  OpenClaim.holds_of_wide 3 Try.f3 rfl rfl rfl rfl rfl rfl rfl ⟨rfl, rfl, rfl, rfl, rfl⟩ rfl rfl rfl rfl rfl isNamed Try.func3 closed isInst isWrap
    (fun os started H enc _ => lifted os started H enc)
end Go.Proofs.Ytabkaflccaklhaa.RowJournalScans
namespace Go.Proofs.Ytabkaflccaklhaa
/-- The row, under a short name. -/
theorem journalScans_holds : Rows.JournalScansSaid := RowJournalScans.over
#print axioms journalScans_holds
end Go.Proofs.Ytabkaflccaklhaa
