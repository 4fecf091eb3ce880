/- THE ROW of quitclaimlaw21.MerkleSums: for every input the law returns true, and each argument reads behind the call as it read before. -/
import Derived.Test.YtffgifegaagndaaRows
import Derived.Test.YtffgifegaagndaaQMer7
import Derived.Test.YtffgifegaagndaaQRowFacts
import Derived.Test.YtffgifegaagndaaQRowC
import Derived.Test.YtffgifegaagndaaQIdx1
set_option linter.unusedSimpArgs false
set_option linter.unusedVariables false
namespace Go.Proofs.Ytffgifegaagndaa.RowMerkleSums
open Go.ChangeShapes Go.WideShapes Go.ChangeAt Go.RowKit Go.Qk
open Go.ChangeMaps (open_string shut_string)
set_option linter.unusedVariables false
set_option maxRecDepth 100000 in
theorem lifted (os : Os) (started : os.Started) (H : Type) (enc : TypeId × Value → H) :
    ReturnsInHanded {} Try.checked os 7 .any (Rows.merkleSumsSpec.pre6 enc Try.prog Try.f7 Rows.merkleSumsRow.domain false) (Rows.merkleSumsSpec.post enc Try.prog Try.f7 false true false false) := by
  refine returnsInHanded_of_change_sized (C := Try.checked) pOwn started (by kernel_rfl) Try.func7
    (ChangeSpec.witness6 (enc := enc) (C := Try.checked) false ⟨#[], #[.slice none 0 0, .int .i64 0, idV (List.replicate 32 0)], []⟩ 64 (by kernel_rfl) (by kernel_rfl) (by kernel_rfl) (by kernel_rfl)) ?_
  intro W base args ds gs before hval0 hW hcnd hsz0 _
  have hsz : (DataW.weightsEach Try.prog (Try.f7.params.toList ++ Rows.merkleSumsSpec.plain.varTypes Try.prog) (ds ++ gs)).all (· ≤ reachBytes) = true := hsz0
  have hval : ∀ (j : Nat) t v, Try.f7.params[j]? = some t → args[j]? = some v → Value.okWide Try.prog W .any base t v := hval0
  have hW' := hW
  obtain ⟨p, q, hA0, hV, rfl, hfz, hnd⟩ := hW
  have hA : DataW.TrodAll enc Try.prog W 0 (fun _ => true) true Try.f7.params.toList args.toList ds p := hA0
  rw [Try.params7] at hA hval hsz
  obtain ⟨v0, vs0, d0, ds0, p0, q0, hargs, rfl, rfl, h0, r0⟩ := trodAll_cons hA
  obtain ⟨v1, vs1, d1, ds1, p1, q1, rfl, rfl, rfl, h1, r1⟩ := trodAll_cons r0
  obtain ⟨v2, vs2, d2, ds2, p2, q2, rfl, rfl, rfl, h2, r2⟩ := trodAll_cons r1
  obtain ⟨rfl, rfl, rfl⟩ := trodAll_nil r2
  obtain rfl : args = #[v0, v1, v2] := by cases args; simp_all
  obtain ⟨rfl, rfl⟩ := trodVars_none hV
  obtain ⟨a0, len0, cap0, rfl⟩ := okWide_slice Try.underlying24 (hval 0 24 v0 rfl rfl)
  have k0 := h0
  have lt0 : ∀ x ∈ p0, x.block < W.heap.size := by obtain ⟨m, hm⟩ := k0; exact DataW.trod_lt m _ _ _ hm
  have hc0 : len0 ≤ cap0 := by obtain ⟨fuel, hf⟩ := k0; exact row_cap Try.underlying24 hf
  obtain ⟨x0, s0, n0, z0⟩ := (by obtain ⟨fuel, hf⟩ := h0; exact open_idRow Try.underlying24 Try.underlying23 (by kernel_rfl) Try.underlying5 (by kernel_rfl) hf : ∃ xs, IdRow W a0 xs ∧ xs.length = len0 ∧ ∀ s ∈ xs, s.length = 32)
  obtain ⟨a1, rfl, rfl, rfl, w1⟩ := open_int Try.underlying3 (hval 1 3 v1 rfl rfl) h1
  have k2 := h2
  obtain ⟨x2, rfl, n2, e2⟩ := open_id Try.underlying23 Try.underlying5 (by kernel_rfl) (by kernel_rfl) (hval 2 23 v2 rfl rfl) h2
  have lt2 : ∀ x ∈ p2, x.block < W.heap.size := by rw [e2]; intro x hx; cases hx
  clear hA0 hval0 hsz0 hsz
  refine (merkleSums a0 len0 cap0 hc0 x0 a1 (wf_hi w1) x2 W s0 n0 z0 n2).mono fun e W' ⟨he, bel⟩ => ?_
  subst he
  exact ⟨_, rfl, _, _, _, [], _, [], hW', trodAll_mk1 (shut_bool Try.underlying4 _), (trodAll_cons_mk (Below.trod pLaid (by kernel_rfl) (of_decide_eq_true (by kernel_rfl)) k0 bel lt0) (trodAll_cons_mk (shut_int Try.underlying3 w1) (trodAll_cons_mk (Below.trod pLaid (by kernel_rfl) (of_decide_eq_true (by kernel_rfl)) k2 bel lt2) trodAll_mk0))), rfl, bel.frame _, fun h => by cases h⟩
theorem k1 : Rows.merkleSumsRow.wf (OpenSpec.ofChange Rows.merkleSumsSpec) = true := by kernel_rfl
theorem k4 : Try.f7.params.all (Try.prog.readableRec ·) = true := by kernel_rfl
theorem k5 : namedTie Try.prog Rows.merkleSumsRow.named Rows.merkleSumsSpec.vars = true := by kernel_rfl
theorem k6 : (Rows.merkleSumsRow.stops == []) = true := by kernel_rfl
theorem k8 : (Rows.merkleSumsRow.knobs == []) = true := by kernel_rfl
theorem k10 : (Rows.merkleSumsRow.inPlace == Try.prog.inPlace 7) = true := by kernel_rfl
theorem k11 : (Rows.merkleSumsRow.unfollowed == Try.prog.unfollowed 7) = true := by kernel_rfl
theorem k12 : (Rows.merkleSumsRow.recurses == Try.prog.recurses 7) = true := by kernel_rfl
theorem k13 : (Rows.merkleSumsRow.named == Try.prog.varsNamed 7) = true := by kernel_rfl
theorem k14 : (Rows.merkleSumsRow.maps == (Try.f7.params.toList ++ Rows.merkleSumsSpec.plain.varTypes Try.prog).any (Try.prog.mapsRec ·)) = true := by kernel_rfl
theorem k15 : (Rows.merkleSumsRow.ifaces == (Try.f7.params.toList ++ Rows.merkleSumsSpec.plain.varTypes Try.prog).any (Try.prog.ifacesRec ·)) = true := by kernel_rfl
theorem k16 : (Rows.merkleSumsRow.mapsOut == Try.prog.mapsAmong Try.f7.resultTypes.toList) = true := by kernel_rfl
theorem k17 : (Rows.merkleSumsRow.loops == (Try.f7.params.toList ++ Rows.merkleSumsSpec.plain.varTypes Try.prog).any (Try.prog.loopsFrom ·)) = true := by kernel_rfl
theorem k18 : (Rows.merkleSumsRow.wideKeys == (Try.f7.params.toList ++ Rows.merkleSumsSpec.plain.varTypes Try.prog ++ Try.f7.resultTypes.toList).any (Try.prog.wideKeysFrom ·)) = true := by kernel_rfl
theorem k19 : Rows.merkleSumsSpec.vars.all (Try.prog.varReadable ·) = true := by kernel_rfl
theorem k20 : Try.f7.resultTypes.all (fun t => Try.prog.readableRec t && decide (t < Try.prog.types.size)) = true := by kernel_rfl
theorem k21 : (Rows.merkleSumsRow.ifacesOut == Try.f7.resultTypes.toList.any (Try.prog.ifacesRec ·)) = true := by kernel_rfl
theorem k22 : (Rows.merkleSumsRow.loopsOut == Try.f7.resultTypes.toList.any (Try.prog.loopsFrom ·)) = true := by kernel_rfl
theorem k23 : (Rows.merkleSumsRow.plainKeys == Try.prog.plainKeys) = true := by kernel_rfl
theorem k24 : Rows.merkleSumsRow.shortTexts.isNone = true := by kernel_rfl
theorem k28 : (Try.prog.make == some Rows.merkleSumsRow.make) = true := by kernel_rfl
theorem k30 : (Rows.merkleSumsRow.pinned == Rows.merkleSumsRow.pinnedBy) = true := by kernel_rfl
theorem k31 : (Rows.merkleSumsRow.veiled == (Try.f7.params.toList ++ Rows.merkleSumsSpec.plain.varTypes Try.prog ++ Try.f7.resultTypes.toList).any (Try.prog.veiledRec ·)) = true := by kernel_rfl
theorem k32 : Rows.merkleSumsRow.veiledFits Try.prog Try.f7.params.toList (Try.f7.params.toList ++ Rows.merkleSumsSpec.plain.varTypes Try.prog ++ Try.f7.resultTypes.toList) = true := by kernel_rfl
theorem k27 : (Rows.merkleSumsRow.lifted == Try.prog.liftsFinal) = true := pLifts
theorem closed : joinedFacts Try.prog 7 Try.f7 Rows.merkleSumsSpec Rows.merkleSumsRow = true := by
  simp only [joinedFacts, pLaid, pMaps, pStops, pKnobs, pHeard, pEnter, k27, k1, k4, k5, k6, k8, k10, k11, k12, k13, k14, k15, k16, k17, k18, k19, k20, k21, k22, k23, k24, k28, k30, k31, k32, Bool.and_true, Bool.true_and]
  kernel_rfl
theorem isNamed : Try.prog.funcNamed Rows.merkleSumsRow.func = some 7 := by kernel_rfl
theorem isInst : Try.f7.isInstance Try.prog Rows.merkleSumsRow.origin Rows.merkleSumsRow.targs := of_decide_eq_true (by kernel_rfl)
theorem isWrap : Try.f7.isWrapper Try.prog Rows.merkleSumsRow.wrapper Rows.merkleSumsRow.mainSum := by unfold Func.isWrapper; first | (rw [if_pos (by decide +kernel)]; kernel_rfl) | (rw [if_neg (by decide +kernel)]; exact ⟨rfl, rfl⟩)
theorem over : Rows.merkleSumsRow.holds Try.pinned (OpenSpec.ofChange Rows.merkleSumsSpec) :=
  OpenClaim.holds_of_wide 7 Try.f7 rfl rfl rfl rfl rfl rfl rfl ⟨rfl, rfl, rfl, rfl, rfl⟩ rfl rfl rfl rfl rfl isNamed Try.func7 closed isInst isWrap
    (fun os started H enc _ => lifted os started H enc)
end Go.Proofs.Ytffgifegaagndaa.RowMerkleSums
namespace Go.Proofs.Ytffgifegaagndaa
/-- The row, under a short name. -/
theorem merkleSums_holds : Rows.MerkleSumsSaid := RowMerkleSums.over
#print axioms merkleSums_holds
end Go.Proofs.Ytffgifegaagndaa
