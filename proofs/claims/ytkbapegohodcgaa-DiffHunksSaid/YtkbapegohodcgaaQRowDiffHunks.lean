/- THE ROW of quitclaimlaw12.DiffHunks: for every input the law returns true, and each argument reads behind the call as it read before. -/
import Derived.Test.YtkbapegohodcgaaRows
import Derived.Test.YtkbapegohodcgaaQDifQ
import Derived.Test.YtkbapegohodcgaaQRowFacts
import Derived.Test.YtkbapegohodcgaaQRowC
set_option linter.unusedSimpArgs false
set_option linter.unusedVariables false
namespace Go.Proofs.Ytkbapegohodcgaa.RowDiffHunks
open Go.ChangeShapes Go.WideShapes Go.ChangeAt Go.RowKit Go.Qk
open Go.ChangeMaps (open_string shut_string)
set_option linter.unusedVariables false
set_option maxRecDepth 100000 in
theorem lifted (os : Os) (started : os.Started) (H : Type) (enc : TypeId × Value → H) :
    ReturnsInHanded {} Try.checked os 6 .any (Rows.diffHunksSpec.pre6 enc Try.prog Try.f6 Rows.diffHunksRow.domain false) (Rows.diffHunksSpec.post enc Try.prog Try.f6 false true false false) := by
  refine returnsInHanded_of_change_sized (C := Try.checked) pOwn started (by kernel_rfl) Try.func6
    (ChangeSpec.witness6 (enc := enc) (C := Try.checked) false ⟨#[], #[.slice none 0 0, .slice none 0 0], []⟩ 64 (by kernel_rfl) (by kernel_rfl) (by kernel_rfl) (by kernel_rfl)) ?_
  intro W base args ds gs before hval0 hW hcnd hsz0 _
  have hsz : (DataW.weightsEach Try.prog (Try.f6.params.toList ++ Rows.diffHunksSpec.plain.varTypes Try.prog) (ds ++ gs)).all (· ≤ reachBytes) = true := hsz0
  have hval : ∀ (j : Nat) t v, Try.f6.params[j]? = some t → args[j]? = some v → Value.okWide Try.prog W .any base t v := hval0
  have hW' := hW
  obtain ⟨p, q, hA0, hV, rfl, hfz, hnd⟩ := hW
  have hA : DataW.TrodAll enc Try.prog W 0 (fun _ => true) true Try.f6.params.toList args.toList ds p := hA0
  rw [Try.params6] at hA hval hsz
  obtain ⟨v0, vs0, d0, ds0, p0, q0, hargs, rfl, rfl, h0, r0⟩ := trodAll_cons hA
  obtain ⟨v1, vs1, d1, ds1, p1, q1, rfl, rfl, rfl, h1, r1⟩ := trodAll_cons r0
  obtain ⟨rfl, rfl, rfl⟩ := trodAll_nil r1
  obtain rfl : args = #[v0, v1] := by cases args; simp_all
  obtain ⟨rfl, rfl⟩ := trodVars_none hV
  obtain ⟨a0, len0, cap0, rfl⟩ := okWide_slice Try.underlying22 (hval 0 22 v0 rfl rfl)
  have k0 := h0
  have lt0 : ∀ x ∈ p0, x.block < W.heap.size := by obtain ⟨m, hm⟩ := k0; exact DataW.trod_lt m _ _ _ hm
  have hc0 : len0 ≤ cap0 := by obtain ⟨fuel, hf⟩ := k0; exact row_cap Try.underlying22 hf
  obtain ⟨x0, s0, n0, z0⟩ := (by obtain ⟨fuel, hf⟩ := h0; exact open_strRow Try.underlying22 Try.underlying9 (by kernel_rfl) hf : ∃ xs, StrRow W a0 xs ∧ xs.length = len0 ∧ ∀ s ∈ xs, s.size ≤ 9223372036854775807)
  obtain ⟨a1, len1, cap1, rfl⟩ := okWide_slice Try.underlying22 (hval 1 22 v1 rfl rfl)
  have k1 := h1
  have lt1 : ∀ x ∈ p1, x.block < W.heap.size := by obtain ⟨m, hm⟩ := k1; exact DataW.trod_lt m _ _ _ hm
  obtain ⟨x1, s1, n1, z1⟩ := (by obtain ⟨fuel, hf⟩ := h1; exact open_strRow Try.underlying22 Try.underlying9 (by kernel_rfl) hf : ∃ xs, StrRow W a1 xs ∧ xs.length = len1 ∧ ∀ s ∈ xs, s.size ≤ 9223372036854775807)
  clear hA0 hval0 hsz0 hsz
  refine (diffHunksW a0 a1 len0 len1 cap0 cap1 x0 x1 W s0 s1 n0 n1 z0 z1 hc0).mono fun e W' ⟨he, bel⟩ => ?_
  subst he
  exact ⟨_, rfl, _, _, _, [], _, [], hW', trodAll_mk1 (shut_bool Try.underlying4 _), (trodAll_cons_mk (Below.trod pLaid (by kernel_rfl) (of_decide_eq_true (by kernel_rfl)) k0 bel lt0) (trodAll_cons_mk (Below.trod pLaid (by kernel_rfl) (of_decide_eq_true (by kernel_rfl)) k1 bel lt1) trodAll_mk0)), rfl, bel.frame _, fun h => by cases h⟩
theorem k1 : Rows.diffHunksRow.wf (OpenSpec.ofChange Rows.diffHunksSpec) = true := by kernel_rfl
theorem k4 : Try.f6.params.all (Try.prog.readableRec ·) = true := by kernel_rfl
theorem k5 : namedTie Try.prog Rows.diffHunksRow.named Rows.diffHunksSpec.vars = true := by kernel_rfl
theorem k6 : (Rows.diffHunksRow.stops == []) = true := by kernel_rfl
theorem k8 : (Rows.diffHunksRow.knobs == []) = true := by kernel_rfl
theorem k10 : (Rows.diffHunksRow.inPlace == Try.prog.inPlace 6) = true := by kernel_rfl
theorem k11 : (Rows.diffHunksRow.unfollowed == Try.prog.unfollowed 6) = true := by kernel_rfl
theorem k12 : (Rows.diffHunksRow.recurses == Try.prog.recurses 6) = true := by kernel_rfl
theorem k13 : (Rows.diffHunksRow.named == Try.prog.varsNamed 6) = true := by kernel_rfl
theorem k14 : (Rows.diffHunksRow.maps == (Try.f6.params.toList ++ Rows.diffHunksSpec.plain.varTypes Try.prog).any (Try.prog.mapsRec ·)) = true := by kernel_rfl
theorem k15 : (Rows.diffHunksRow.ifaces == (Try.f6.params.toList ++ Rows.diffHunksSpec.plain.varTypes Try.prog).any (Try.prog.ifacesRec ·)) = true := by kernel_rfl
theorem k16 : (Rows.diffHunksRow.mapsOut == Try.prog.mapsAmong Try.f6.resultTypes.toList) = true := by kernel_rfl
theorem k17 : (Rows.diffHunksRow.loops == (Try.f6.params.toList ++ Rows.diffHunksSpec.plain.varTypes Try.prog).any (Try.prog.loopsFrom ·)) = true := by kernel_rfl
theorem k18 : (Rows.diffHunksRow.wideKeys == (Try.f6.params.toList ++ Rows.diffHunksSpec.plain.varTypes Try.prog ++ Try.f6.resultTypes.toList).any (Try.prog.wideKeysFrom ·)) = true := by kernel_rfl
theorem k19 : Rows.diffHunksSpec.vars.all (Try.prog.varReadable ·) = true := by kernel_rfl
theorem k20 : Try.f6.resultTypes.all (fun t => Try.prog.readableRec t && decide (t < Try.prog.types.size)) = true := by kernel_rfl
theorem k21 : (Rows.diffHunksRow.ifacesOut == Try.f6.resultTypes.toList.any (Try.prog.ifacesRec ·)) = true := by kernel_rfl
theorem k22 : (Rows.diffHunksRow.loopsOut == Try.f6.resultTypes.toList.any (Try.prog.loopsFrom ·)) = true := by kernel_rfl
theorem k23 : (Rows.diffHunksRow.plainKeys == Try.prog.plainKeys) = true := by kernel_rfl
theorem k24 : Rows.diffHunksRow.shortTexts.isNone = true := by kernel_rfl
theorem k28 : (Try.prog.make == some Rows.diffHunksRow.make) = true := by kernel_rfl
theorem k30 : (Rows.diffHunksRow.pinned == Rows.diffHunksRow.pinnedBy) = true := by kernel_rfl
theorem k31 : (Rows.diffHunksRow.veiled == (Try.f6.params.toList ++ Rows.diffHunksSpec.plain.varTypes Try.prog ++ Try.f6.resultTypes.toList).any (Try.prog.veiledRec ·)) = true := by kernel_rfl
theorem k32 : Rows.diffHunksRow.veiledFits Try.prog Try.f6.params.toList (Try.f6.params.toList ++ Rows.diffHunksSpec.plain.varTypes Try.prog ++ Try.f6.resultTypes.toList) = true := by kernel_rfl
theorem k27 : (Rows.diffHunksRow.lifted == Try.prog.liftsFinal) = true := pLifts
theorem closed : joinedFacts Try.prog 6 Try.f6 Rows.diffHunksSpec Rows.diffHunksRow = true := by
  simp only [joinedFacts, pLaid, pMaps, pStops, pKnobs, pHeard, pEnter, k27, k1, k4, k5, k6, k8, k10, k11, k12, k13, k14, k15, k16, k17, k18, k19, k20, k21, k22, k23, k24, k28, k30, k31, k32, Bool.and_true, Bool.true_and]
  kernel_rfl
theorem isNamed : Try.prog.funcNamed Rows.diffHunksRow.func = some 6 := by kernel_rfl
theorem isInst : Try.f6.isInstance Try.prog Rows.diffHunksRow.origin Rows.diffHunksRow.targs := of_decide_eq_true (by kernel_rfl)
theorem isWrap : Try.f6.isWrapper Try.prog Rows.diffHunksRow.wrapper Rows.diffHunksRow.mainSum := by unfold Func.isWrapper; first | (rw [if_pos (by decide +kernel)]; kernel_rfl) | (rw [if_neg (by decide +kernel)]; exact ⟨rfl, rfl⟩)
theorem over : Rows.diffHunksRow.holds Try.pinned (OpenSpec.ofChange Rows.diffHunksSpec) :=
  OpenClaim.holds_of_wide 6 Try.f6 rfl rfl rfl rfl rfl rfl rfl ⟨rfl, rfl, rfl, rfl, rfl⟩ rfl rfl rfl rfl rfl isNamed Try.func6 closed isInst isWrap
    (fun os started H enc _ => lifted os started H enc)
end Go.Proofs.Ytkbapegohodcgaa.RowDiffHunks
namespace Go.Proofs.Ytkbapegohodcgaa
/-- The row, under a short name. -/
theorem diffHunks_holds : Rows.DiffHunksSaid := RowDiffHunks.over
#print axioms diffHunks_holds
end Go.Proofs.Ytkbapegohodcgaa
