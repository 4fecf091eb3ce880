/- THE ROW of quitclaimlaw03.TagRows: for every input the law returns true, and each argument reads behind the call as it read before. -/
import Derived.Test.YtkibibgbmkejjaaRows
import Derived.Test.YtkibibgbmkejjaaQTagL
import Derived.Test.YtkibibgbmkejjaaQRowFacts
import Derived.Test.YtkibibgbmkejjaaQRowId
set_option linter.unusedSimpArgs false
set_option linter.unusedVariables false
namespace Go.Proofs.Ytkibibgbmkejjaa.RowTagRows
open Go.ChangeShapes Go.WideShapes Go.ChangeAt Go.RowKit Go.Qk
open Go.ChangeMaps (open_string shut_string)
set_option linter.unusedVariables false
set_option maxRecDepth 100000 in
theorem lifted (os : Os) (started : os.Started) (H : Type) (enc : TypeId × Value → H) :
    ReturnsInHanded {} Try.checked os 6 .any (Rows.tagRowsSpec.pre6 enc Try.prog Try.f6 Rows.tagRowsRow.domain false) (Rows.tagRowsSpec.post enc Try.prog Try.f6 false true false false) := by
  refine returnsInHanded_of_change_sized (C := Try.checked) pOwn started (by kernel_rfl) Try.func6
    (ChangeSpec.witness6 (enc := enc) (C := Try.checked) false ⟨#[], #[.string ByteArray.empty, idV (List.replicate 32 0), idV (List.replicate 32 0), .slice none 0 0], []⟩ 64 (by kernel_rfl) (by kernel_rfl) (by kernel_rfl) (by kernel_rfl)) ?_
  intro W base args ds gs before hval0 hW hcnd hsz0 _
  have hsz : (DataW.weightsEach Try.prog (Try.f6.params.toList ++ Rows.tagRowsSpec.plain.varTypes Try.prog) (ds ++ gs)).all (· ≤ reachBytes) = true := hsz0
  have hval : ∀ (j : Nat) t v, Try.f6.params[j]? = some t → args[j]? = some v → Value.okWide Try.prog W .any base t v := hval0
  have hW' := hW
  obtain ⟨p, q, hA0, hV, rfl, hfz, hnd⟩ := hW
  have hA : DataW.TrodAll enc Try.prog W 0 (fun _ => true) true Try.f6.params.toList args.toList ds p := hA0
  rw [Try.params6] at hA hval hsz
  obtain ⟨v0, vs0, d0, ds0, p0, q0, hargs, rfl, rfl, h0, r0⟩ := trodAll_cons hA
  obtain ⟨v1, vs1, d1, ds1, p1, q1, rfl, rfl, rfl, h1, r1⟩ := trodAll_cons r0
  obtain ⟨v2, vs2, d2, ds2, p2, q2, rfl, rfl, rfl, h2, r2⟩ := trodAll_cons r1
  obtain ⟨v3, vs3, d3, ds3, p3, q3, rfl, rfl, rfl, h3, r3⟩ := trodAll_cons r2
  obtain ⟨rfl, rfl, rfl⟩ := trodAll_nil r3
  obtain rfl : args = #[v0, v1, v2, v3] := by cases args; simp_all
  obtain ⟨rfl, rfl⟩ := trodVars_none hV
  obtain ⟨a0, rfl, rfl, rfl, y0⟩ := open_string Try.underlying9 (hval 0 9 v0 rfl rfl) h0
  have w0 : a0.size ≤ 140737488351232 := by
    have z := sized_string hsz (j := 0) (t := 9) rfl rfl
    rw [Array.length_toList] at z
    exact z
  have k1 := h1
  obtain ⟨x1, rfl, n1, e1⟩ := open_id Try.underlying23 Try.underlying5 (by kernel_rfl) (by kernel_rfl) (hval 1 23 v1 rfl rfl) h1
  have lt1 : ∀ x ∈ p1, x.block < W.heap.size := by rw [e1]; intro x hx; cases hx
  have k2 := h2
  obtain ⟨x2, rfl, n2, e2⟩ := open_id Try.underlying23 Try.underlying5 (by kernel_rfl) (by kernel_rfl) (hval 2 23 v2 rfl rfl) h2
  have lt2 : ∀ x ∈ p2, x.block < W.heap.size := by rw [e2]; intro x hx; cases hx
  obtain ⟨a3, len3, cap3, rfl⟩ := okWide_slice Try.underlying35 (hval 3 35 v3 rfl rfl)
  have k3 := h3
  have lt3 : ∀ x ∈ p3, x.block < W.heap.size := by obtain ⟨m, hm⟩ := k3; exact DataW.trod_lt m _ _ _ hm
  obtain ⟨x3, s3, n3, z3⟩ := (by obtain ⟨fuel, hf⟩ := h3; exact open_idRow Try.underlying35 Try.underlying23 (by kernel_rfl) Try.underlying5 (by kernel_rfl) hf : ∃ xs, IdRow W a3 xs ∧ xs.length = len3 ∧ ∀ s ∈ xs, s.length = 32)
  clear hA0 hval0 hsz0 hsz
  refine (tagRows a0 w0 x1 x2 n1 n2 a3 len3 cap3 x3 W s3 n3 z3).mono fun e W' ⟨he, bel⟩ => ?_
  subst he
  exact ⟨_, rfl, _, _, _, [], _, [], hW', trodAll_mk1 (shut_bool Try.underlying4 _), (trodAll_cons_mk (shut_string Try.underlying9 y0) (trodAll_cons_mk (Below.trod pLaid (by kernel_rfl) (of_decide_eq_true (by kernel_rfl)) k1 bel lt1) (trodAll_cons_mk (Below.trod pLaid (by kernel_rfl) (of_decide_eq_true (by kernel_rfl)) k2 bel lt2) (trodAll_cons_mk (Below.trod pLaid (by kernel_rfl) (of_decide_eq_true (by kernel_rfl)) k3 bel lt3) trodAll_mk0)))), rfl, bel.frame _, fun h => by cases h⟩
theorem k1 : Rows.tagRowsRow.wf (OpenSpec.ofChange Rows.tagRowsSpec) = true := by kernel_rfl
theorem k4 : Try.f6.params.all (Try.prog.readableRec ·) = true := by kernel_rfl
theorem k5 : namedTie Try.prog Rows.tagRowsRow.named Rows.tagRowsSpec.vars = true := by kernel_rfl
theorem k6 : (Rows.tagRowsRow.stops == []) = true := by kernel_rfl
theorem k8 : (Rows.tagRowsRow.knobs == []) = true := by kernel_rfl
theorem k10 : (Rows.tagRowsRow.inPlace == Try.prog.inPlace 6) = true := by kernel_rfl
theorem k11 : (Rows.tagRowsRow.unfollowed == Try.prog.unfollowed 6) = true := by kernel_rfl
theorem k12 : (Rows.tagRowsRow.recurses == Try.prog.recurses 6) = true := by kernel_rfl
theorem k13 : (Rows.tagRowsRow.named == Try.prog.varsNamed 6) = true := by kernel_rfl
theorem k14 : (Rows.tagRowsRow.maps == (Try.f6.params.toList ++ Rows.tagRowsSpec.plain.varTypes Try.prog).any (Try.prog.mapsRec ·)) = true := by kernel_rfl
theorem k15 : (Rows.tagRowsRow.ifaces == (Try.f6.params.toList ++ Rows.tagRowsSpec.plain.varTypes Try.prog).any (Try.prog.ifacesRec ·)) = true := by kernel_rfl
theorem k16 : (Rows.tagRowsRow.mapsOut == Try.prog.mapsAmong Try.f6.resultTypes.toList) = true := by kernel_rfl
theorem k17 : (Rows.tagRowsRow.loops == (Try.f6.params.toList ++ Rows.tagRowsSpec.plain.varTypes Try.prog).any (Try.prog.loopsFrom ·)) = true := by kernel_rfl
theorem k18 : (Rows.tagRowsRow.wideKeys == (Try.f6.params.toList ++ Rows.tagRowsSpec.plain.varTypes Try.prog ++ Try.f6.resultTypes.toList).any (Try.prog.wideKeysFrom ·)) = true := by kernel_rfl
theorem k19 : Rows.tagRowsSpec.vars.all (Try.prog.varReadable ·) = true := by kernel_rfl
theorem k20 : Try.f6.resultTypes.all (fun t => Try.prog.readableRec t && decide (t < Try.prog.types.size)) = true := by kernel_rfl
theorem k21 : (Rows.tagRowsRow.ifacesOut == Try.f6.resultTypes.toList.any (Try.prog.ifacesRec ·)) = true := by kernel_rfl
theorem k22 : (Rows.tagRowsRow.loopsOut == Try.f6.resultTypes.toList.any (Try.prog.loopsFrom ·)) = true := by kernel_rfl
theorem k23 : (Rows.tagRowsRow.plainKeys == Try.prog.plainKeys) = true := by kernel_rfl
theorem k24 : Rows.tagRowsRow.shortTexts.isNone = true := by kernel_rfl
theorem k28 : (Try.prog.make == some Rows.tagRowsRow.make) = true := by kernel_rfl
theorem k30 : (Rows.tagRowsRow.pinned == Rows.tagRowsRow.pinnedBy) = true := by kernel_rfl
theorem k31 : (Rows.tagRowsRow.veiled == (Try.f6.params.toList ++ Rows.tagRowsSpec.plain.varTypes Try.prog ++ Try.f6.resultTypes.toList).any (Try.prog.veiledRec ·)) = true := by kernel_rfl
theorem k32 : Rows.tagRowsRow.veiledFits Try.prog Try.f6.params.toList (Try.f6.params.toList ++ Rows.tagRowsSpec.plain.varTypes Try.prog ++ Try.f6.resultTypes.toList) = true := by kernel_rfl
theorem k27 : (Rows.tagRowsRow.lifted == Try.prog.liftsFinal) = true := pLifts
theorem closed : joinedFacts Try.prog 6 Try.f6 Rows.tagRowsSpec Rows.tagRowsRow = true := by
  simp only [joinedFacts, pLaid, pMaps, pStops, pKnobs, pHeard, pEnter, k27, k1, k4, k5, k6, k8, k10, k11, k12, k13, k14, k15, k16, k17, k18, k19, k20, k21, k22, k23, k24, k28, k30, k31, k32, Bool.and_true, Bool.true_and]
  kernel_rfl
theorem isNamed : Try.prog.funcNamed Rows.tagRowsRow.func = some 6 := by kernel_rfl
theorem isInst : Try.f6.isInstance Try.prog Rows.tagRowsRow.origin Rows.tagRowsRow.targs := of_decide_eq_true (by kernel_rfl)
theorem isWrap : Try.f6.isWrapper Try.prog Rows.tagRowsRow.wrapper Rows.tagRowsRow.mainSum := by unfold Func.isWrapper; first | (rw [if_pos (by decide +kernel)]; kernel_rfl) | (rw [if_neg (by decide +kernel)]; exact ⟨rfl, rfl⟩)
theorem over : Rows.tagRowsRow.holds Try.pinned (OpenSpec.ofChange Rows.tagRowsSpec) :=
  OpenClaim.holds_of_wide 6 Try.f6 rfl rfl rfl rfl rfl rfl rfl ⟨rfl, rfl, rfl, rfl, rfl⟩ rfl rfl rfl rfl rfl isNamed Try.func6 closed isInst isWrap
    (fun os started H enc _ => lifted os started H enc)
end Go.Proofs.Ytkibibgbmkejjaa.RowTagRows
namespace Go.Proofs.Ytkibibgbmkejjaa
/-- The row, under a short name. -/
theorem tagRows_holds : Rows.TagRowsSaid := RowTagRows.over
#print axioms tagRows_holds
end Go.Proofs.Ytkibibgbmkejjaa
