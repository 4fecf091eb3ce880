/- THE ROW of quitclaimlaw08.SignerVerifies: for every input the law returns true, and each argument reads behind the call as it read before. -/
import Derived.Test.YtffgifegaagndaaRows
import Derived.Test.YtffgifegaagndaaQSig6
import Derived.Test.YtffgifegaagndaaQRowFacts
import Derived.Test.YtffgifegaagndaaQRowC
import Derived.Test.YtffgifegaagndaaQRowS
import Derived.Test.YtffgifegaagndaaQIdx1
set_option linter.unusedSimpArgs false
set_option linter.unusedVariables false
namespace Go.Proofs.Ytffgifegaagndaa.RowSignerVerifies
open Go.ChangeShapes Go.WideShapes Go.ChangeAt Go.RowKit Go.Qk
open Go.ChangeMaps (open_string shut_string)
set_option linter.unusedVariables false
set_option maxRecDepth 100000 in
theorem lifted (os : Os) (started : os.Started) (H : Type) (enc : TypeId × Value → H) :
    ReturnsInHanded {} Try.checked os 13 .any (Rows.signerVerifiesSpec.pre6 enc Try.prog Try.f13 Rows.signerVerifiesRow.domain false) (Rows.signerVerifiesSpec.post enc Try.prog Try.f13 false true false false) := by
  refine returnsInHanded_of_change_sized (C := Try.checked) pOwn started (by kernel_rfl) Try.func13
    (ChangeSpec.witness6 (enc := enc) (C := Try.checked) false ⟨#[], #[.agg #[.int .i64 0, .int .i64 0], idV (List.replicate 32 0), idV (List.replicate 32 0), .agg #[.int .i64 0, .slice none 0 0, .slice none 0 0, .slice none 0 0]], []⟩ 64 (by kernel_rfl) (by kernel_rfl) (by kernel_rfl) (by kernel_rfl)) ?_
  intro W base args ds gs before hval0 hW hcnd hsz0 _
  have hsz : (DataW.weightsEach Try.prog (Try.f13.params.toList ++ Rows.signerVerifiesSpec.plain.varTypes Try.prog) (ds ++ gs)).all (· ≤ reachBytes) = true := hsz0
  have hval : ∀ (j : Nat) t v, Try.f13.params[j]? = some t → args[j]? = some v → Value.okWide Try.prog W .any base t v := hval0
  have hW' := hW
  obtain ⟨p, q, hA0, hV, rfl, hfz, hnd⟩ := hW
  have hA : DataW.TrodAll enc Try.prog W 0 (fun _ => true) true Try.f13.params.toList args.toList ds p := hA0
  rw [Try.params13] at hA hval hsz
  obtain ⟨v0, vs0, d0, ds0, p0, q0, hargs, rfl, rfl, h0, r0⟩ := trodAll_cons hA
  obtain ⟨v1, vs1, d1, ds1, p1, q1, rfl, rfl, rfl, h1, r1⟩ := trodAll_cons r0
  obtain ⟨v2, vs2, d2, ds2, p2, q2, rfl, rfl, rfl, h2, r2⟩ := trodAll_cons r1
  obtain ⟨v3, vs3, d3, ds3, p3, q3, rfl, rfl, rfl, h3, r3⟩ := trodAll_cons r2
  obtain ⟨rfl, rfl, rfl⟩ := trodAll_nil r3
  obtain rfl : args = #[v0, v1, v2, v3] := by cases args; simp_all
  obtain ⟨rfl, rfl⟩ := trodVars_none hV
  have k0 := h0
  obtain ⟨a0, c0, rfl, w0, u0, e0⟩ := open_two Try.underlying44 (by kernel_rfl) (by kernel_rfl) Try.underlying3 Try.underlying3 (hval 0 44 v0 rfl rfl) h0
  have lt0 : ∀ x ∈ p0, x.block < W.heap.size := by rw [e0]; intro x hx; cases hx
  have k1 := h1
  obtain ⟨x1, rfl, n1, e1⟩ := open_id Try.underlying23 Try.underlying5 (by kernel_rfl) (by kernel_rfl) (hval 1 23 v1 rfl rfl) h1
  have lt1 : ∀ x ∈ p1, x.block < W.heap.size := by rw [e1]; intro x hx; cases hx
  have k2 := h2
  obtain ⟨x2, rfl, n2, e2⟩ := open_id Try.underlying23 Try.underlying5 (by kernel_rfl) (by kernel_rfl) (hval 2 23 v2 rfl rfl) h2
  have lt2 : ∀ x ∈ p2, x.block < W.heap.size := by rw [e2]; intro x hx; cases hx
  have k3 := h3
  obtain ⟨leaf3, A3, B3, C3, n3, m3, k3_, c3, d3_, e3, xs3, ys3, zs3, rfl, w3, ⟨qa3, qb3, qc3, qd3⟩, ⟨ra3, rb3, rc3, rd3⟩, ⟨ta3, tb3, tc3, td3⟩⟩ := open_sig Try.underlying88 (by kernel_rfl) (by kernel_rfl) Try.underlying3 Try.underlying24 Try.underlying24 Try.underlying24 Try.underlying23 (by kernel_rfl) Try.underlying5 (by kernel_rfl) (hval 3 88 v3 rfl rfl) h3
  have lt3 : ∀ x ∈ p3, x.block < W.heap.size := by obtain ⟨m, hm⟩ := k3; exact DataW.trod_lt m _ _ _ hm
  clear hA0 hval0 hsz0 hsz
  refine (signerVerifies a0 c0 x1 x2 n1 n2 leaf3 (wf_hi w3) A3 B3 C3 n3 m3 k3_ c3 d3_ e3 xs3 ys3 zs3 W qa3 ra3 ta3 qb3 rb3 tb3 qc3 rc3 tc3).mono fun e W' ⟨he, bel⟩ => ?_
  subst he
  exact ⟨_, rfl, _, _, _, [], _, [], hW', trodAll_mk1 (shut_bool Try.underlying4 _), (trodAll_cons_mk (Below.trod pLaid (by kernel_rfl) (of_decide_eq_true (by kernel_rfl)) k0 bel lt0) (trodAll_cons_mk (Below.trod pLaid (by kernel_rfl) (of_decide_eq_true (by kernel_rfl)) k1 bel lt1) (trodAll_cons_mk (Below.trod pLaid (by kernel_rfl) (of_decide_eq_true (by kernel_rfl)) k2 bel lt2) (trodAll_cons_mk (Below.trod pLaid (by kernel_rfl) (of_decide_eq_true (by kernel_rfl)) k3 bel lt3) trodAll_mk0)))), rfl, bel.frame _, fun h => by cases h⟩
theorem k1 : Rows.signerVerifiesRow.wf (OpenSpec.ofChange Rows.signerVerifiesSpec) = true := by kernel_rfl
theorem k4 : Try.f13.params.all (Try.prog.readableRec ·) = true := by kernel_rfl
theorem k5 : namedTie Try.prog Rows.signerVerifiesRow.named Rows.signerVerifiesSpec.vars = true := by kernel_rfl
theorem k6 : (Rows.signerVerifiesRow.stops == []) = true := by kernel_rfl
theorem k8 : (Rows.signerVerifiesRow.knobs == []) = true := by kernel_rfl
theorem k10 : (Rows.signerVerifiesRow.inPlace == Try.prog.inPlace 13) = true := by kernel_rfl
theorem k11 : (Rows.signerVerifiesRow.unfollowed == Try.prog.unfollowed 13) = true := by kernel_rfl
theorem k12 : (Rows.signerVerifiesRow.recurses == Try.prog.recurses 13) = true := by kernel_rfl
theorem k13 : (Rows.signerVerifiesRow.named == Try.prog.varsNamed 13) = true := by kernel_rfl
theorem k14 : (Rows.signerVerifiesRow.maps == (Try.f13.params.toList ++ Rows.signerVerifiesSpec.plain.varTypes Try.prog).any (Try.prog.mapsRec ·)) = true := by kernel_rfl
theorem k15 : (Rows.signerVerifiesRow.ifaces == (Try.f13.params.toList ++ Rows.signerVerifiesSpec.plain.varTypes Try.prog).any (Try.prog.ifacesRec ·)) = true := by kernel_rfl
theorem k16 : (Rows.signerVerifiesRow.mapsOut == Try.prog.mapsAmong Try.f13.resultTypes.toList) = true := by kernel_rfl
theorem k17 : (Rows.signerVerifiesRow.loops == (Try.f13.params.toList ++ Rows.signerVerifiesSpec.plain.varTypes Try.prog).any (Try.prog.loopsFrom ·)) = true := by kernel_rfl
theorem k18 : (Rows.signerVerifiesRow.wideKeys == (Try.f13.params.toList ++ Rows.signerVerifiesSpec.plain.varTypes Try.prog ++ Try.f13.resultTypes.toList).any (Try.prog.wideKeysFrom ·)) = true := by kernel_rfl
theorem k19 : Rows.signerVerifiesSpec.vars.all (Try.prog.varReadable ·) = true := by kernel_rfl
theorem k20 : Try.f13.resultTypes.all (fun t => Try.prog.readableRec t && decide (t < Try.prog.types.size)) = true := by kernel_rfl
theorem k21 : (Rows.signerVerifiesRow.ifacesOut == Try.f13.resultTypes.toList.any (Try.prog.ifacesRec ·)) = true := by kernel_rfl
theorem k22 : (Rows.signerVerifiesRow.loopsOut == Try.f13.resultTypes.toList.any (Try.prog.loopsFrom ·)) = true := by kernel_rfl
theorem k23 : (Rows.signerVerifiesRow.plainKeys == Try.prog.plainKeys) = true := by kernel_rfl
theorem k24 : Rows.signerVerifiesRow.shortTexts.isNone = true := by kernel_rfl
theorem k28 : (Try.prog.make == some Rows.signerVerifiesRow.make) = true := by kernel_rfl
theorem k30 : (Rows.signerVerifiesRow.pinned == Rows.signerVerifiesRow.pinnedBy) = true := by kernel_rfl
theorem k31 : (Rows.signerVerifiesRow.veiled == (Try.f13.params.toList ++ Rows.signerVerifiesSpec.plain.varTypes Try.prog ++ Try.f13.resultTypes.toList).any (Try.prog.veiledRec ·)) = true := by kernel_rfl
theorem k32 : Rows.signerVerifiesRow.veiledFits Try.prog Try.f13.params.toList (Try.f13.params.toList ++ Rows.signerVerifiesSpec.plain.varTypes Try.prog ++ Try.f13.resultTypes.toList) = true := by kernel_rfl
theorem k27 : (Rows.signerVerifiesRow.lifted == Try.prog.liftsFinal) = true := pLifts
theorem closed : joinedFacts Try.prog 13 Try.f13 Rows.signerVerifiesSpec Rows.signerVerifiesRow = true := by
  simp only [joinedFacts, pLaid, pMaps, pStops, pKnobs, pHeard, pEnter, k27, k1, k4, k5, k6, k8, k10, k11, k12, k13, k14, k15, k16, k17, k18, k19, k20, k21, k22, k23, k24, k28, k30, k31, k32, Bool.and_true, Bool.true_and]
  kernel_rfl
theorem isNamed : Try.prog.funcNamed Rows.signerVerifiesRow.func = some 13 := by kernel_rfl
theorem isInst : Try.f13.isInstance Try.prog Rows.signerVerifiesRow.origin Rows.signerVerifiesRow.targs := of_decide_eq_true (by kernel_rfl)
theorem isWrap : Try.f13.isWrapper Try.prog Rows.signerVerifiesRow.wrapper Rows.signerVerifiesRow.mainSum := by unfold Func.isWrapper; first | (rw [if_pos (by decide +kernel)]; kernel_rfl) | (rw [if_neg (by decide +kernel)]; exact ⟨rfl, rfl⟩)
theorem over : Rows.signerVerifiesRow.holds Try.pinned (OpenSpec.ofChange Rows.signerVerifiesSpec) :=
  OpenClaim.holds_of_wide 13 Try.f13 rfl rfl rfl rfl rfl rfl rfl ⟨rfl, rfl, rfl, rfl, rfl⟩ rfl rfl rfl rfl rfl isNamed Try.func13 closed isInst isWrap
    (fun os started H enc _ => lifted os started H enc)
end Go.Proofs.Ytffgifegaagndaa.RowSignerVerifies
namespace Go.Proofs.Ytffgifegaagndaa
/-- The row, under a short name. -/
theorem signerVerifies_holds : Rows.SignerVerifiesSaid := RowSignerVerifies.over
#print axioms signerVerifies_holds
end Go.Proofs.Ytffgifegaagndaa
