/- THE ROW of quitclaimlaw08.SignerSigns: for every input the law returns true, and each argument reads behind the call as it read before. -/
import Derived.Test.YtffgifegaagndaaRows
import Derived.Test.YtffgifegaagndaaQSig8
import Derived.Test.YtffgifegaagndaaQRowFacts
import Derived.Test.YtffgifegaagndaaQIdx1
set_option linter.unusedSimpArgs false
set_option linter.unusedVariables false
namespace Go.Proofs.Ytffgifegaagndaa.RowSignerSigns
open Go.ChangeShapes Go.WideShapes Go.ChangeAt Go.RowKit Go.Qk
open Go.ChangeMaps (open_string shut_string)
set_option linter.unusedVariables false
set_option maxRecDepth 100000 in
theorem lifted (os : Os) (started : os.Started) (H : Type) (enc : TypeId × Value → H) :
    ReturnsInHanded {} Try.checked os 14 .any (Rows.signerSignsSpec.pre6 enc Try.prog Try.f14 Rows.signerSignsRow.domain false) (Rows.signerSignsSpec.post enc Try.prog Try.f14 false true false false) := by
  refine returnsInHanded_of_change_sized (C := Try.checked) pOwn started (by kernel_rfl) Try.func14
    (ChangeSpec.witness6 (enc := enc) (C := Try.checked) false ⟨#[], #[.int .u8 0, .string ByteArray.empty, .int .i64 0, .slice none 0 0, .int .i64 0], []⟩ 64 (by kernel_rfl) (by kernel_rfl) (by kernel_rfl) (by kernel_rfl)) ?_
  intro W base args ds gs before hval0 hW hcnd hsz0 _
  have hsz : (DataW.weightsEach Try.prog (Try.f14.params.toList ++ Rows.signerSignsSpec.plain.varTypes Try.prog) (ds ++ gs)).all (· ≤ reachBytes) = true := hsz0
  have hval : ∀ (j : Nat) t v, Try.f14.params[j]? = some t → args[j]? = some v → Value.okWide Try.prog W .any base t v := hval0
  have hW' := hW
  obtain ⟨p, q, hA0, hV, rfl, hfz, hnd⟩ := hW
  have hA : DataW.TrodAll enc Try.prog W 0 (fun _ => true) true Try.f14.params.toList args.toList ds p := hA0
  rw [Try.params14] at hA hval hsz
  obtain ⟨v0, vs0, d0, ds0, p0, q0, hargs, rfl, rfl, h0, r0⟩ := trodAll_cons hA
  obtain ⟨v1, vs1, d1, ds1, p1, q1, rfl, rfl, rfl, h1, r1⟩ := trodAll_cons r0
  obtain ⟨v2, vs2, d2, ds2, p2, q2, rfl, rfl, rfl, h2, r2⟩ := trodAll_cons r1
  obtain ⟨v3, vs3, d3, ds3, p3, q3, rfl, rfl, rfl, h3, r3⟩ := trodAll_cons r2
  obtain ⟨v4, vs4, d4, ds4, p4, q4, rfl, rfl, rfl, h4, r4⟩ := trodAll_cons r3
  obtain ⟨rfl, rfl, rfl⟩ := trodAll_nil r4
  obtain rfl : args = #[v0, v1, v2, v3, v4] := by cases args; simp_all
  obtain ⟨rfl, rfl⟩ := trodVars_none hV
  obtain ⟨a0, rfl, rfl, rfl, w0⟩ := open_int Try.underlying5 (hval 0 5 v0 rfl rfl) h0
  obtain ⟨a1, rfl, rfl, rfl, y1⟩ := open_string Try.underlying9 (hval 1 9 v1 rfl rfl) h1
  have w1 : a1.size ≤ 140737488351232 := by
    have z := sized_string hsz (j := 1) (t := 9) rfl rfl
    rw [Array.length_toList] at z
    exact z
  obtain ⟨a2, rfl, rfl, rfl, w2⟩ := open_int Try.underlying3 (hval 2 3 v2 rfl rfl) h2
  obtain ⟨a3, len3, cap3, rfl⟩ := okWide_slice Try.underlying24 (hval 3 24 v3 rfl rfl)
  have k3 := h3
  have lt3 : ∀ x ∈ p3, x.block < W.heap.size := by obtain ⟨m, hm⟩ := k3; exact DataW.trod_lt m _ _ _ hm
  obtain ⟨x3, s3, n3, z3⟩ := (by obtain ⟨fuel, hf⟩ := h3; exact open_idRow Try.underlying24 Try.underlying23 (by kernel_rfl) Try.underlying5 (by kernel_rfl) hf : ∃ xs, IdRow W a3 xs ∧ xs.length = len3 ∧ ∀ s ∈ xs, s.length = 32)
  obtain ⟨a4, rfl, rfl, rfl, w4⟩ := open_int Try.underlying3 (hval 4 3 v4 rfl rfl) h4
  clear hA0 hval0 hsz0 hsz
  refine (signerSignsI a0 w0 a1 w1 a2 a3 len3 cap3 x3 a4 W s3 n3 z3).mono fun e W' ⟨he, bel⟩ => ?_
  subst he
  exact ⟨_, rfl, _, _, _, [], _, [], hW', trodAll_mk1 (shut_bool Try.underlying4 _), (trodAll_cons_mk (shut_int Try.underlying5 w0) (trodAll_cons_mk (shut_string Try.underlying9 y1) (trodAll_cons_mk (shut_int Try.underlying3 w2) (trodAll_cons_mk (Below.trod pLaid (by kernel_rfl) (of_decide_eq_true (by kernel_rfl)) k3 bel lt3) (trodAll_cons_mk (shut_int Try.underlying3 w4) trodAll_mk0))))), rfl, bel.frame _, fun h => by cases h⟩
theorem k1 : Rows.signerSignsRow.wf (OpenSpec.ofChange Rows.signerSignsSpec) = true := by kernel_rfl
theorem k4 : Try.f14.params.all (Try.prog.readableRec ·) = true := by kernel_rfl
theorem k5 : namedTie Try.prog Rows.signerSignsRow.named Rows.signerSignsSpec.vars = true := by kernel_rfl
theorem k6 : (Rows.signerSignsRow.stops == []) = true := by kernel_rfl
theorem k8 : (Rows.signerSignsRow.knobs == []) = true := by kernel_rfl
theorem k10 : (Rows.signerSignsRow.inPlace == Try.prog.inPlace 14) = true := by kernel_rfl
theorem k11 : (Rows.signerSignsRow.unfollowed == Try.prog.unfollowed 14) = true := by kernel_rfl
theorem k12 : (Rows.signerSignsRow.recurses == Try.prog.recurses 14) = true := by kernel_rfl
theorem k13 : (Rows.signerSignsRow.named == Try.prog.varsNamed 14) = true := by kernel_rfl
theorem k14 : (Rows.signerSignsRow.maps == (Try.f14.params.toList ++ Rows.signerSignsSpec.plain.varTypes Try.prog).any (Try.prog.mapsRec ·)) = true := by kernel_rfl
theorem k15 : (Rows.signerSignsRow.ifaces == (Try.f14.params.toList ++ Rows.signerSignsSpec.plain.varTypes Try.prog).any (Try.prog.ifacesRec ·)) = true := by kernel_rfl
theorem k16 : (Rows.signerSignsRow.mapsOut == Try.prog.mapsAmong Try.f14.resultTypes.toList) = true := by kernel_rfl
theorem k17 : (Rows.signerSignsRow.loops == (Try.f14.params.toList ++ Rows.signerSignsSpec.plain.varTypes Try.prog).any (Try.prog.loopsFrom ·)) = true := by kernel_rfl
theorem k18 : (Rows.signerSignsRow.wideKeys == (Try.f14.params.toList ++ Rows.signerSignsSpec.plain.varTypes Try.prog ++ Try.f14.resultTypes.toList).any (Try.prog.wideKeysFrom ·)) = true := by kernel_rfl
theorem k19 : Rows.signerSignsSpec.vars.all (Try.prog.varReadable ·) = true := by kernel_rfl
theorem k20 : Try.f14.resultTypes.all (fun t => Try.prog.readableRec t && decide (t < Try.prog.types.size)) = true := by kernel_rfl
theorem k21 : (Rows.signerSignsRow.ifacesOut == Try.f14.resultTypes.toList.any (Try.prog.ifacesRec ·)) = true := by kernel_rfl
theorem k22 : (Rows.signerSignsRow.loopsOut == Try.f14.resultTypes.toList.any (Try.prog.loopsFrom ·)) = true := by kernel_rfl
theorem k23 : (Rows.signerSignsRow.plainKeys == Try.prog.plainKeys) = true := by kernel_rfl
theorem k24 : Rows.signerSignsRow.shortTexts.isNone = true := by kernel_rfl
theorem k28 : (Try.prog.make == some Rows.signerSignsRow.make) = true := by kernel_rfl
theorem k30 : (Rows.signerSignsRow.pinned == Rows.signerSignsRow.pinnedBy) = true := by kernel_rfl
theorem k31 : (Rows.signerSignsRow.veiled == (Try.f14.params.toList ++ Rows.signerSignsSpec.plain.varTypes Try.prog ++ Try.f14.resultTypes.toList).any (Try.prog.veiledRec ·)) = true := by kernel_rfl
theorem k32 : Rows.signerSignsRow.veiledFits Try.prog Try.f14.params.toList (Try.f14.params.toList ++ Rows.signerSignsSpec.plain.varTypes Try.prog ++ Try.f14.resultTypes.toList) = true := by kernel_rfl
theorem k27 : (Rows.signerSignsRow.lifted == Try.prog.liftsFinal) = true := pLifts
theorem closed : joinedFacts Try.prog 14 Try.f14 Rows.signerSignsSpec Rows.signerSignsRow = true := by
  simp only [joinedFacts, pLaid, pMaps, pStops, pKnobs, pHeard, pEnter, k27, k1, k4, k5, k6, k8, k10, k11, k12, k13, k14, k15, k16, k17, k18, k19, k20, k21, k22, k23, k24, k28, k30, k31, k32, Bool.and_true, Bool.true_and]
  kernel_rfl
theorem isNamed : Try.prog.funcNamed Rows.signerSignsRow.func = some 14 := by kernel_rfl
theorem isInst : Try.f14.isInstance Try.prog Rows.signerSignsRow.origin Rows.signerSignsRow.targs := of_decide_eq_true (by kernel_rfl)
theorem isWrap : Try.f14.isWrapper Try.prog Rows.signerSignsRow.wrapper Rows.signerSignsRow.mainSum := by unfold Func.isWrapper; first | (rw [if_pos (by decide +kernel)]; kernel_rfl) | (rw [if_neg (by decide +kernel)]; exact ⟨rfl, rfl⟩)
theorem over : Rows.signerSignsRow.holds Try.pinned (OpenSpec.ofChange Rows.signerSignsSpec) :=
  OpenClaim.holds_of_wide 14 Try.f14 rfl rfl rfl rfl rfl rfl rfl ⟨rfl, rfl, rfl, rfl, rfl⟩ rfl rfl rfl rfl rfl isNamed Try.func14 closed isInst isWrap
    (fun os started H enc _ => lifted os started H enc)
end Go.Proofs.Ytffgifegaagndaa.RowSignerSigns
namespace Go.Proofs.Ytffgifegaagndaa
/-- The row, under a short name. -/
theorem signerSigns_holds : Rows.SignerSignsSaid := RowSignerSigns.over
#print axioms signerSigns_holds
end Go.Proofs.Ytffgifegaagndaa
