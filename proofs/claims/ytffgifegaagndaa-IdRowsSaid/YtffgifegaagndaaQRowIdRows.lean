/- THE ROW of quitclaimlaw04.IdRows: for every input the law returns true, and each argument reads behind the call as it read before. -/
import Derived.Test.YtffgifegaagndaaRows
import Derived.Test.YtffgifegaagndaaQSrt7
import Derived.Test.YtffgifegaagndaaQRowFacts
import Derived.Test.YtffgifegaagndaaQIdx1
set_option linter.unusedSimpArgs false
set_option linter.unusedVariables false
namespace Go.Proofs.Ytffgifegaagndaa.RowIdRows
open Go.ChangeShapes Go.WideShapes Go.ChangeAt Go.RowKit Go.Qk
open Go.ChangeMaps (open_string shut_string)
set_option linter.unusedVariables false
set_option maxRecDepth 100000 in
theorem lifted (os : Os) (started : os.Started) (H : Type) (enc : TypeId × Value → H) :
    ReturnsInHanded {} Try.checked os 11 .any (Rows.idRowsSpec.pre6 enc Try.prog Try.f11 Rows.idRowsRow.domain false) (Rows.idRowsSpec.post enc Try.prog Try.f11 false true false false) := by
  refine returnsInHanded_of_change_sized (C := Try.checked) pOwn started (by kernel_rfl) Try.func11
    (ChangeSpec.witness6 (enc := enc) (C := Try.checked) false ⟨#[], #[.slice none 0 0, idV (List.replicate 32 0)], []⟩ 64 (by kernel_rfl) (by kernel_rfl) (by kernel_rfl) (by kernel_rfl)) ?_
  intro W base args ds gs before hval0 hW hcnd hsz0 _
  have hsz : (DataW.weightsEach Try.prog (Try.f11.params.toList ++ Rows.idRowsSpec.plain.varTypes Try.prog) (ds ++ gs)).all (· ≤ reachBytes) = true := hsz0
  have hval : ∀ (j : Nat) t v, Try.f11.params[j]? = some t → args[j]? = some v → Value.okWide Try.prog W .any base t v := hval0
  have hW' := hW
  obtain ⟨p, q, hA0, hV, rfl, hfz, hnd⟩ := hW
  have hA : DataW.TrodAll enc Try.prog W 0 (fun _ => true) true Try.f11.params.toList args.toList ds p := hA0
  rw [Try.params11] at hA hval hsz
  obtain ⟨v0, vs0, d0, ds0, p0, q0, hargs, rfl, rfl, h0, r0⟩ := trodAll_cons hA
  obtain ⟨v1, vs1, d1, ds1, p1, q1, rfl, rfl, rfl, h1, r1⟩ := trodAll_cons r0
  obtain ⟨rfl, rfl, rfl⟩ := trodAll_nil r1
  obtain rfl : args = #[v0, v1] := by cases args; simp_all
  obtain ⟨rfl, rfl⟩ := trodVars_none hV
  obtain ⟨a0, len0, cap0, rfl⟩ := okWide_slice Try.underlying24 (hval 0 24 v0 rfl rfl)
  have k0 := h0
  have lt0 : ∀ x ∈ p0, x.block < W.heap.size := by obtain ⟨m, hm⟩ := k0; exact DataW.trod_lt m _ _ _ hm
  obtain ⟨x0, s0, n0, z0⟩ := (by obtain ⟨fuel, hf⟩ := h0; exact open_idRow Try.underlying24 Try.underlying23 (by kernel_rfl) Try.underlying5 (by kernel_rfl) hf : ∃ xs, IdRow W a0 xs ∧ xs.length = len0 ∧ ∀ s ∈ xs, s.length = 32)
  have k1 := h1
  obtain ⟨x1, rfl, n1, e1⟩ := open_id Try.underlying23 Try.underlying5 (by kernel_rfl) (by kernel_rfl) (hval 1 23 v1 rfl rfl) h1
  have lt1 : ∀ x ∈ p1, x.block < W.heap.size := by rw [e1]; intro x hx; cases hx
  clear hA0 hval0 hsz0 hsz
  refine (idRows a0 len0 cap0 x0 x1 W s0 n0 z0 n1).mono fun e W' ⟨he, bel⟩ => ?_
  subst he
  exact ⟨_, rfl, _, _, _, [], _, [], hW', trodAll_mk1 (shut_bool Try.underlying4 _), (trodAll_cons_mk (Below.trod pLaid (by kernel_rfl) (of_decide_eq_true (by kernel_rfl)) k0 bel lt0) (trodAll_cons_mk (Below.trod pLaid (by kernel_rfl) (of_decide_eq_true (by kernel_rfl)) k1 bel lt1) trodAll_mk0)), rfl, bel.frame _, fun h => by cases h⟩
theorem k1 : Rows.idRowsRow.wf (OpenSpec.ofChange Rows.idRowsSpec) = true := by kernel_rfl
theorem k4 : Try.f11.params.all (Try.prog.readableRec ·) = true := by kernel_rfl
theorem k5 : namedTie Try.prog Rows.idRowsRow.named Rows.idRowsSpec.vars = true := by kernel_rfl
theorem k6 : (Rows.idRowsRow.stops == []) = true := by kernel_rfl
theorem k8 : (Rows.idRowsRow.knobs == []) = true := by kernel_rfl
theorem k10 : (Rows.idRowsRow.inPlace == Try.prog.inPlace 11) = true := by kernel_rfl
theorem k11 : (Rows.idRowsRow.unfollowed == Try.prog.unfollowed 11) = true := by kernel_rfl
theorem k12 : (Rows.idRowsRow.recurses == Try.prog.recurses 11) = true := by kernel_rfl
theorem k13 : (Rows.idRowsRow.named == Try.prog.varsNamed 11) = true := by kernel_rfl
theorem k14 : (Rows.idRowsRow.maps == (Try.f11.params.toList ++ Rows.idRowsSpec.plain.varTypes Try.prog).any (Try.prog.mapsRec ·)) = true := by kernel_rfl
theorem k15 : (Rows.idRowsRow.ifaces == (Try.f11.params.toList ++ Rows.idRowsSpec.plain.varTypes Try.prog).any (Try.prog.ifacesRec ·)) = true := by kernel_rfl
theorem k16 : (Rows.idRowsRow.mapsOut == Try.prog.mapsAmong Try.f11.resultTypes.toList) = true := by kernel_rfl
theorem k17 : (Rows.idRowsRow.loops == (Try.f11.params.toList ++ Rows.idRowsSpec.plain.varTypes Try.prog).any (Try.prog.loopsFrom ·)) = true := by kernel_rfl
theorem k18 : (Rows.idRowsRow.wideKeys == (Try.f11.params.toList ++ Rows.idRowsSpec.plain.varTypes Try.prog ++ Try.f11.resultTypes.toList).any (Try.prog.wideKeysFrom ·)) = true := by kernel_rfl
theorem k19 : Rows.idRowsSpec.vars.all (Try.prog.varReadable ·) = true := by kernel_rfl
theorem k20 : Try.f11.resultTypes.all (fun t => Try.prog.readableRec t && decide (t < Try.prog.types.size)) = true := by kernel_rfl
theorem k21 : (Rows.idRowsRow.ifacesOut == Try.f11.resultTypes.toList.any (Try.prog.ifacesRec ·)) = true := by kernel_rfl
theorem k22 : (Rows.idRowsRow.loopsOut == Try.f11.resultTypes.toList.any (Try.prog.loopsFrom ·)) = true := by kernel_rfl
theorem k23 : (Rows.idRowsRow.plainKeys == Try.prog.plainKeys) = true := by kernel_rfl
theorem k24 : Rows.idRowsRow.shortTexts.isNone = true := by kernel_rfl
theorem k28 : (Try.prog.make == some Rows.idRowsRow.make) = true := by kernel_rfl
theorem k30 : (Rows.idRowsRow.pinned == Rows.idRowsRow.pinnedBy) = true := by kernel_rfl
theorem k31 : (Rows.idRowsRow.veiled == (Try.f11.params.toList ++ Rows.idRowsSpec.plain.varTypes Try.prog ++ Try.f11.resultTypes.toList).any (Try.prog.veiledRec ·)) = true := by kernel_rfl
theorem k32 : Rows.idRowsRow.veiledFits Try.prog Try.f11.params.toList (Try.f11.params.toList ++ Rows.idRowsSpec.plain.varTypes Try.prog ++ Try.f11.resultTypes.toList) = true := by kernel_rfl
theorem k27 : (Rows.idRowsRow.lifted == Try.prog.liftsFinal) = true := pLifts
theorem closed : joinedFacts Try.prog 11 Try.f11 Rows.idRowsSpec Rows.idRowsRow = true := by
  simp only [joinedFacts, pLaid, pMaps, pStops, pKnobs, pHeard, pEnter, k27, k1, k4, k5, k6, k8, k10, k11, k12, k13, k14, k15, k16, k17, k18, k19, k20, k21, k22, k23, k24, k28, k30, k31, k32, Bool.and_true, Bool.true_and]
  kernel_rfl
theorem isNamed : Try.prog.funcNamed Rows.idRowsRow.func = some 11 := by kernel_rfl
theorem isInst : Try.f11.isInstance Try.prog Rows.idRowsRow.origin Rows.idRowsRow.targs := of_decide_eq_true (by kernel_rfl)
theorem isWrap : Try.f11.isWrapper Try.prog Rows.idRowsRow.wrapper Rows.idRowsRow.mainSum := by unfold Func.isWrapper; first | (rw [if_pos (by decide +kernel)]; kernel_rfl) | (rw [if_neg (by decide +kernel)]; exact ⟨rfl, rfl⟩)
theorem over : Rows.idRowsRow.holds Try.pinned (OpenSpec.ofChange Rows.idRowsSpec) :=
  OpenClaim.holds_of_wide 11 Try.f11 rfl rfl rfl rfl rfl rfl rfl ⟨rfl, rfl, rfl, rfl, rfl⟩ rfl rfl rfl rfl rfl isNamed Try.func11 closed isInst isWrap
    (fun os started H enc _ => lifted os started H enc)
end Go.Proofs.Ytffgifegaagndaa.RowIdRows
namespace Go.Proofs.Ytffgifegaagndaa
/-- The row, under a short name. -/
theorem idRows_holds : Rows.IdRowsSaid := RowIdRows.over
#print axioms idRows_holds
end Go.Proofs.Ytffgifegaagndaa
