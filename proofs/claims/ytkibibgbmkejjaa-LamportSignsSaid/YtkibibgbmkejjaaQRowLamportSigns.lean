/- THE ROW of quitclaimlaw06.LamportSigns: for every input the law returns true, and each argument reads behind the call as it read before. -/
import Derived.Test.YtkibibgbmkejjaaRows
import Derived.Test.YtkibibgbmkejjaaQLam8
import Derived.Test.YtkibibgbmkejjaaQRowFacts
import Derived.Test.YtkibibgbmkejjaaQRowId
set_option linter.unusedSimpArgs false
set_option linter.unusedVariables false
namespace Go.Proofs.Ytkibibgbmkejjaa.RowLamportSigns
open Go.ChangeShapes Go.WideShapes Go.ChangeAt Go.RowKit Go.Qk
open Go.ChangeMaps (open_string shut_string)
set_option linter.unusedVariables false
set_option maxRecDepth 100000 in
theorem lifted (os : Os) (started : os.Started) (H : Type) (enc : TypeId × Value → H) :
    ReturnsInHanded {} Try.checked os 10 .any (Rows.lamportSignsSpec.pre6 enc Try.prog Try.f10 Rows.lamportSignsRow.domain false) (Rows.lamportSignsSpec.post enc Try.prog Try.f10 false true false false) := by
  refine returnsInHanded_of_change_sized (C := Try.checked) pOwn started (by kernel_rfl) Try.func10
    (ChangeSpec.witness6 (enc := enc) (C := Try.checked) false ⟨#[], #[.string ByteArray.empty, .int .i64 0, .int .i64 0, idV (List.replicate 32 0)], []⟩ 64 (by kernel_rfl) (by kernel_rfl) (by kernel_rfl) (by kernel_rfl)) ?_
  intro W base args ds gs before hval0 hW hcnd hsz0 _
  have hsz : (DataW.weightsEach Try.prog (Try.f10.params.toList ++ Rows.lamportSignsSpec.plain.varTypes Try.prog) (ds ++ gs)).all (· ≤ reachBytes) = true := hsz0
  have hval : ∀ (j : Nat) t v, Try.f10.params[j]? = some t → args[j]? = some v → Value.okWide Try.prog W .any base t v := hval0
  have hW' := hW
  obtain ⟨p, q, hA0, hV, rfl, hfz, hnd⟩ := hW
  have hA : DataW.TrodAll enc Try.prog W 0 (fun _ => true) true Try.f10.params.toList args.toList ds p := hA0
  rw [Try.params10] at hA hval hsz
  obtain ⟨v0, vs0, d0, ds0, p0, q0, hargs, rfl, rfl, h0, r0⟩ := trodAll_cons hA
  obtain ⟨v1, vs1, d1, ds1, p1, q1, rfl, rfl, rfl, h1, r1⟩ := trodAll_cons r0
  obtain ⟨v2, vs2, d2, ds2, p2, q2, rfl, rfl, rfl, h2, r2⟩ := trodAll_cons r1
  obtain ⟨v3, vs3, d3, ds3, p3, q3, rfl, rfl, rfl, h3, r3⟩ := trodAll_cons r2
  obtain ⟨rfl, rfl, rfl⟩ := trodAll_nil r3
  obtain rfl : args = #[v0, v1, v2, v3] := by cases args; simp_all
  obtain ⟨rfl, rfl⟩ := trodVars_none hV
  obtain ⟨a0, rfl, rfl, rfl, y0⟩ := open_string Try.underlying9 (hval 0 9 v0 rfl rfl) h0
  have w0 : a0.size ≤ 140737488351232 := by
    have z := sized_string hsz (j := 0) (t := 9) rfl rfl
    rw [Array.length_toList] at z
    exact z
  obtain ⟨a1, rfl, rfl, rfl, w1⟩ := open_int Try.underlying3 (hval 1 3 v1 rfl rfl) h1
  obtain ⟨a2, rfl, rfl, rfl, w2⟩ := open_int Try.underlying3 (hval 2 3 v2 rfl rfl) h2
  have k3 := h3
  obtain ⟨x3, rfl, n3, e3⟩ := open_id Try.underlying23 Try.underlying5 (by kernel_rfl) (by kernel_rfl) (hval 3 23 v3 rfl rfl) h3
  have lt3 : ∀ x ∈ p3, x.block < W.heap.size := by rw [e3]; intro x hx; cases hx
  clear hA0 hval0 hsz0 hsz
  refine (lamportSigns a0 w0 a1 a2 (wf_hi w1) x3 n3 W).mono fun e W' ⟨he, bel⟩ => ?_
  subst he
  exact ⟨_, rfl, _, _, _, [], _, [], hW', trodAll_mk1 (shut_bool Try.underlying4 _), (trodAll_cons_mk (shut_string Try.underlying9 y0) (trodAll_cons_mk (shut_int Try.underlying3 w1) (trodAll_cons_mk (shut_int Try.underlying3 w2) (trodAll_cons_mk (Below.trod pLaid (by kernel_rfl) (of_decide_eq_true (by kernel_rfl)) k3 bel lt3) trodAll_mk0)))), rfl, bel.frame _, fun h => by cases h⟩
theorem k1 : Rows.lamportSignsRow.wf (OpenSpec.ofChange Rows.lamportSignsSpec) = true := by kernel_rfl
theorem k4 : Try.f10.params.all (Try.prog.readableRec ·) = true := by kernel_rfl
theorem k5 : namedTie Try.prog Rows.lamportSignsRow.named Rows.lamportSignsSpec.vars = true := by kernel_rfl
theorem k6 : (Rows.lamportSignsRow.stops == []) = true := by kernel_rfl
theorem k8 : (Rows.lamportSignsRow.knobs == []) = true := by kernel_rfl
theorem k10 : (Rows.lamportSignsRow.inPlace == Try.prog.inPlace 10) = true := by kernel_rfl
theorem k11 : (Rows.lamportSignsRow.unfollowed == Try.prog.unfollowed 10) = true := by kernel_rfl
theorem k12 : (Rows.lamportSignsRow.recurses == Try.prog.recurses 10) = true := by kernel_rfl
theorem k13 : (Rows.lamportSignsRow.named == Try.prog.varsNamed 10) = true := by kernel_rfl
theorem k14 : (Rows.lamportSignsRow.maps == (Try.f10.params.toList ++ Rows.lamportSignsSpec.plain.varTypes Try.prog).any (Try.prog.mapsRec ·)) = true := by kernel_rfl
theorem k15 : (Rows.lamportSignsRow.ifaces == (Try.f10.params.toList ++ Rows.lamportSignsSpec.plain.varTypes Try.prog).any (Try.prog.ifacesRec ·)) = true := by kernel_rfl
theorem k16 : (Rows.lamportSignsRow.mapsOut == Try.prog.mapsAmong Try.f10.resultTypes.toList) = true := by kernel_rfl
theorem k17 : (Rows.lamportSignsRow.loops == (Try.f10.params.toList ++ Rows.lamportSignsSpec.plain.varTypes Try.prog).any (Try.prog.loopsFrom ·)) = true := by kernel_rfl
theorem k18 : (Rows.lamportSignsRow.wideKeys == (Try.f10.params.toList ++ Rows.lamportSignsSpec.plain.varTypes Try.prog ++ Try.f10.resultTypes.toList).any (Try.prog.wideKeysFrom ·)) = true := by kernel_rfl
theorem k19 : Rows.lamportSignsSpec.vars.all (Try.prog.varReadable ·) = true := by kernel_rfl
theorem k20 : Try.f10.resultTypes.all (fun t => Try.prog.readableRec t && decide (t < Try.prog.types.size)) = true := by kernel_rfl
theorem k21 : (Rows.lamportSignsRow.ifacesOut == Try.f10.resultTypes.toList.any (Try.prog.ifacesRec ·)) = true := by kernel_rfl
theorem k22 : (Rows.lamportSignsRow.loopsOut == Try.f10.resultTypes.toList.any (Try.prog.loopsFrom ·)) = true := by kernel_rfl
theorem k23 : (Rows.lamportSignsRow.plainKeys == Try.prog.plainKeys) = true := by kernel_rfl
theorem k24 : Rows.lamportSignsRow.shortTexts.isNone = true := by kernel_rfl
theorem k28 : (Try.prog.make == some Rows.lamportSignsRow.make) = true := by kernel_rfl
theorem k30 : (Rows.lamportSignsRow.pinned == Rows.lamportSignsRow.pinnedBy) = true := by kernel_rfl
theorem k31 : (Rows.lamportSignsRow.veiled == (Try.f10.params.toList ++ Rows.lamportSignsSpec.plain.varTypes Try.prog ++ Try.f10.resultTypes.toList).any (Try.prog.veiledRec ·)) = true := by kernel_rfl
theorem k32 : Rows.lamportSignsRow.veiledFits Try.prog Try.f10.params.toList (Try.f10.params.toList ++ Rows.lamportSignsSpec.plain.varTypes Try.prog ++ Try.f10.resultTypes.toList) = true := by kernel_rfl
theorem k27 : (Rows.lamportSignsRow.lifted == Try.prog.liftsFinal) = true := pLifts
theorem closed : joinedFacts Try.prog 10 Try.f10 Rows.lamportSignsSpec Rows.lamportSignsRow = true := by
  simp only [joinedFacts, pLaid, pMaps, pStops, pKnobs, pHeard, pEnter, k27, k1, k4, k5, k6, k8, k10, k11, k12, k13, k14, k15, k16, k17, k18, k19, k20, k21, k22, k23, k24, k28, k30, k31, k32, Bool.and_true, Bool.true_and]
  kernel_rfl
theorem isNamed : Try.prog.funcNamed Rows.lamportSignsRow.func = some 10 := by kernel_rfl
theorem isInst : Try.f10.isInstance Try.prog Rows.lamportSignsRow.origin Rows.lamportSignsRow.targs := of_decide_eq_true (by kernel_rfl)
theorem isWrap : Try.f10.isWrapper Try.prog Rows.lamportSignsRow.wrapper Rows.lamportSignsRow.mainSum := by unfold Func.isWrapper; first | (rw [if_pos (by decide +kernel)]; kernel_rfl) | (rw [if_neg (by decide +kernel)]; exact ⟨rfl, rfl⟩)
theorem over : Rows.lamportSignsRow.holds Try.pinned (OpenSpec.ofChange Rows.lamportSignsSpec) :=
  OpenClaim.holds_of_wide 10 Try.f10 rfl rfl rfl rfl rfl rfl rfl ⟨rfl, rfl, rfl, rfl, rfl⟩ rfl rfl rfl rfl rfl isNamed Try.func10 closed isInst isWrap
    (fun os started H enc _ => lifted os started H enc)
end Go.Proofs.Ytkibibgbmkejjaa.RowLamportSigns
namespace Go.Proofs.Ytkibibgbmkejjaa
/-- The row, under a short name. -/
theorem lamportSigns_holds : Rows.LamportSignsSaid := RowLamportSigns.over
#print axioms lamportSigns_holds
end Go.Proofs.Ytkibibgbmkejjaa
