/- THE ROW of quitclaimlaw04.IdSets: for every input the law returns true, and each argument reads behind the call as it read before. -/
import Derived.Test.YtkibibgbmkejjaaRows
import Derived.Test.YtkibibgbmkejjaaQSetL
import Derived.Test.YtkibibgbmkejjaaQRowFacts
import Derived.Test.YtkibibgbmkejjaaQRowId
set_option linter.unusedSimpArgs false
set_option linter.unusedVariables false
namespace Go.Proofs.Ytkibibgbmkejjaa.RowIdSets
open Go.ChangeShapes Go.WideShapes Go.ChangeAt Go.RowKit Go.Qk
open Go.ChangeMaps (open_string shut_string)
set_option linter.unusedVariables false
set_option maxRecDepth 100000 in
theorem lifted (os : Os) (started : os.Started) (H : Type) (enc : TypeId × Value → H) :
    ReturnsInHanded {} Try.checked os 4 .any (Rows.idSetsSpec.pre6 enc Try.prog Try.f4 Rows.idSetsRow.domain false) (Rows.idSetsSpec.post enc Try.prog Try.f4 false true false false) := by
  refine returnsInHanded_of_change_sized (C := Try.checked) pOwn started (by kernel_rfl) Try.func4
    (ChangeSpec.witness6 (enc := enc) (C := Try.checked) false ⟨#[], #[.slice none 0 0, .slice none 0 0], []⟩ 64 (by kernel_rfl) (by kernel_rfl) (by kernel_rfl) (by kernel_rfl)) ?_
  intro W base args ds gs before hval0 hW hcnd hsz0 _
  have hsz : (DataW.weightsEach Try.prog (Try.f4.params.toList ++ Rows.idSetsSpec.plain.varTypes Try.prog) (ds ++ gs)).all (· ≤ reachBytes) = true := hsz0
  have hval : ∀ (j : Nat) t v, Try.f4.params[j]? = some t → args[j]? = some v → Value.okWide Try.prog W .any base t v := hval0
  have hW' := hW
  obtain ⟨p, q, hA0, hV, rfl, hfz, hnd⟩ := hW
  have hA : DataW.TrodAll enc Try.prog W 0 (fun _ => true) true Try.f4.params.toList args.toList ds p := hA0
  rw [Try.params4] at hA hval hsz
  obtain ⟨v0, vs0, d0, ds0, p0, q0, hargs, rfl, rfl, h0, r0⟩ := trodAll_cons hA
  obtain ⟨v1, vs1, d1, ds1, p1, q1, rfl, rfl, rfl, h1, r1⟩ := trodAll_cons r0
  obtain ⟨rfl, rfl, rfl⟩ := trodAll_nil r1
  obtain rfl : args = #[v0, v1] := by cases args; simp_all
  obtain ⟨rfl, rfl⟩ := trodVars_none hV
  obtain ⟨a0, len0, cap0, rfl⟩ := okWide_slice Try.underlying35 (hval 0 35 v0 rfl rfl)
  have k0 := h0
  have lt0 : ∀ x ∈ p0, x.block < W.heap.size := by obtain ⟨m, hm⟩ := k0; exact DataW.trod_lt m _ _ _ hm
  obtain ⟨x0, s0, n0, z0⟩ := (by obtain ⟨fuel, hf⟩ := h0; exact open_idRow Try.underlying35 Try.underlying23 (by kernel_rfl) Try.underlying5 (by kernel_rfl) hf : ∃ xs, IdRow W a0 xs ∧ xs.length = len0 ∧ ∀ s ∈ xs, s.length = 32)
  obtain ⟨a1, len1, cap1, rfl⟩ := okWide_slice Try.underlying35 (hval 1 35 v1 rfl rfl)
  have k1 := h1
  have lt1 : ∀ x ∈ p1, x.block < W.heap.size := by obtain ⟨m, hm⟩ := k1; exact DataW.trod_lt m _ _ _ hm
  obtain ⟨x1, s1, n1, z1⟩ := (by obtain ⟨fuel, hf⟩ := h1; exact open_idRow Try.underlying35 Try.underlying23 (by kernel_rfl) Try.underlying5 (by kernel_rfl) hf : ∃ xs, IdRow W a1 xs ∧ xs.length = len1 ∧ ∀ s ∈ xs, s.length = 32)
  clear hA0 hval0 hsz0 hsz
  refine (idSets a0 a1 len0 len1 cap0 cap1 x0 x1 W s0 s1 n0 n1 z0 z1).mono fun e W' ⟨he, bel⟩ => ?_
  subst he
  exact ⟨_, rfl, _, _, _, [], _, [], hW', trodAll_mk1 (shut_bool Try.underlying4 _), (trodAll_cons_mk (Below.trod pLaid (by kernel_rfl) (of_decide_eq_true (by kernel_rfl)) k0 bel lt0) (trodAll_cons_mk (Below.trod pLaid (by kernel_rfl) (of_decide_eq_true (by kernel_rfl)) k1 bel lt1) trodAll_mk0)), rfl, bel.frame _, fun h => by cases h⟩
theorem k1 : Rows.idSetsRow.wf (OpenSpec.ofChange Rows.idSetsSpec) = true := by kernel_rfl
theorem k4 : Try.f4.params.all (Try.prog.readableRec ·) = true := by kernel_rfl
theorem k5 : namedTie Try.prog Rows.idSetsRow.named Rows.idSetsSpec.vars = true := by kernel_rfl
theorem k6 : (Rows.idSetsRow.stops == []) = true := by kernel_rfl
theorem k8 : (Rows.idSetsRow.knobs == []) = true := by kernel_rfl
theorem k10 : (Rows.idSetsRow.inPlace == Try.prog.inPlace 4) = true := by kernel_rfl
theorem k11 : (Rows.idSetsRow.unfollowed == Try.prog.unfollowed 4) = true := by kernel_rfl
theorem k12 : (Rows.idSetsRow.recurses == Try.prog.recurses 4) = true := by kernel_rfl
theorem k13 : (Rows.idSetsRow.named == Try.prog.varsNamed 4) = true := by kernel_rfl
theorem k14 : (Rows.idSetsRow.maps == (Try.f4.params.toList ++ Rows.idSetsSpec.plain.varTypes Try.prog).any (Try.prog.mapsRec ·)) = true := by kernel_rfl
theorem k15 : (Rows.idSetsRow.ifaces == (Try.f4.params.toList ++ Rows.idSetsSpec.plain.varTypes Try.prog).any (Try.prog.ifacesRec ·)) = true := by kernel_rfl
theorem k16 : (Rows.idSetsRow.mapsOut == Try.prog.mapsAmong Try.f4.resultTypes.toList) = true := by kernel_rfl
theorem k17 : (Rows.idSetsRow.loops == (Try.f4.params.toList ++ Rows.idSetsSpec.plain.varTypes Try.prog).any (Try.prog.loopsFrom ·)) = true := by kernel_rfl
theorem k18 : (Rows.idSetsRow.wideKeys == (Try.f4.params.toList ++ Rows.idSetsSpec.plain.varTypes Try.prog ++ Try.f4.resultTypes.toList).any (Try.prog.wideKeysFrom ·)) = true := by kernel_rfl
theorem k19 : Rows.idSetsSpec.vars.all (Try.prog.varReadable ·) = true := by kernel_rfl
theorem k20 : Try.f4.resultTypes.all (fun t => Try.prog.readableRec t && decide (t < Try.prog.types.size)) = true := by kernel_rfl
theorem k21 : (Rows.idSetsRow.ifacesOut == Try.f4.resultTypes.toList.any (Try.prog.ifacesRec ·)) = true := by kernel_rfl
theorem k22 : (Rows.idSetsRow.loopsOut == Try.f4.resultTypes.toList.any (Try.prog.loopsFrom ·)) = true := by kernel_rfl
theorem k23 : (Rows.idSetsRow.plainKeys == Try.prog.plainKeys) = true := by kernel_rfl
theorem k24 : Rows.idSetsRow.shortTexts.isNone = true := by kernel_rfl
theorem k28 : (Try.prog.make == some Rows.idSetsRow.make) = true := by kernel_rfl
theorem k30 : (Rows.idSetsRow.pinned == Rows.idSetsRow.pinnedBy) = true := by kernel_rfl
theorem k31 : (Rows.idSetsRow.veiled == (Try.f4.params.toList ++ Rows.idSetsSpec.plain.varTypes Try.prog ++ Try.f4.resultTypes.toList).any (Try.prog.veiledRec ·)) = true := by kernel_rfl
theorem k32 : Rows.idSetsRow.veiledFits Try.prog Try.f4.params.toList (Try.f4.params.toList ++ Rows.idSetsSpec.plain.varTypes Try.prog ++ Try.f4.resultTypes.toList) = true := by kernel_rfl
theorem k27 : (Rows.idSetsRow.lifted == Try.prog.liftsFinal) = true := pLifts
theorem closed : joinedFacts Try.prog 4 Try.f4 Rows.idSetsSpec Rows.idSetsRow = true := by
  simp only [joinedFacts, pLaid, pMaps, pStops, pKnobs, pHeard, pEnter, k27, k1, k4, k5, k6, k8, k10, k11, k12, k13, k14, k15, k16, k17, k18, k19, k20, k21, k22, k23, k24, k28, k30, k31, k32, Bool.and_true, Bool.true_and]
  kernel_rfl
theorem isNamed : Try.prog.funcNamed Rows.idSetsRow.func = some 4 := by kernel_rfl
theorem isInst : Try.f4.isInstance Try.prog Rows.idSetsRow.origin Rows.idSetsRow.targs := of_decide_eq_true (by kernel_rfl)
theorem isWrap : Try.f4.isWrapper Try.prog Rows.idSetsRow.wrapper Rows.idSetsRow.mainSum := by unfold Func.isWrapper; first | (rw [if_pos (by decide +kernel)]; kernel_rfl) | (rw [if_neg (by decide +kernel)]; exact ⟨rfl, rfl⟩)
theorem over : Rows.idSetsRow.holds Try.pinned (OpenSpec.ofChange Rows.idSetsSpec) :=
  OpenClaim.holds_of_wide 4 Try.f4 rfl rfl rfl rfl rfl rfl rfl ⟨rfl, rfl, rfl, rfl, rfl⟩ rfl rfl rfl rfl rfl isNamed Try.func4 closed isInst isWrap
    (fun os started H enc _ => lifted os started H enc)
end Go.Proofs.Ytkibibgbmkejjaa.RowIdSets
namespace Go.Proofs.Ytkibibgbmkejjaa
/-- The row, under a short name. -/
theorem idSets_holds : Rows.IdSetsSaid := RowIdSets.over
#print axioms idSets_holds
end Go.Proofs.Ytkibibgbmkejjaa
