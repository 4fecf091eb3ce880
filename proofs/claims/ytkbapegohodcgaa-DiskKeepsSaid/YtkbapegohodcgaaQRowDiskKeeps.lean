/- THE ROW of quitclaimlaw24.DiskKeeps: for every input the law returns true, and each argument reads behind the call as it read before. -/
import Derived.Test.YtkbapegohodcgaaRows
import Derived.Test.YtkbapegohodcgaaQDis7
import Derived.Test.YtkbapegohodcgaaQRowFacts
set_option linter.unusedSimpArgs false
set_option linter.unusedVariables false
namespace Go.Proofs.Ytkbapegohodcgaa.RowDiskKeeps
open Go.ChangeShapes Go.WideShapes Go.ChangeAt Go.RowKit Go.Qk
open Go.ChangeMaps (open_string shut_string)
set_option linter.unusedVariables false
set_option maxRecDepth 100000 in
theorem lifted (os : Os) (started : os.Started) (H : Type) (enc : TypeId × Value → H) :
    ReturnsInHanded {} Try.checked os 3 .any (Rows.diskKeepsSpec.pre6 enc Try.prog Try.f3 Rows.diskKeepsRow.domain false) (Rows.diskKeepsSpec.post enc Try.prog Try.f3 false true false false) := by
  refine returnsInHanded_of_change_sized (C := Try.checked) pOwn started (by kernel_rfl) Try.func3
    (ChangeSpec.witness6 (enc := enc) (C := Try.checked) false ⟨#[], #[.string ByteArray.empty, .slice none 0 0, .int .u64 0, .int .i64 0], []⟩ 64 (by kernel_rfl) (by kernel_rfl) (by kernel_rfl) (by kernel_rfl)) ?_
  intro W base args ds gs before hval0 hW hcnd hsz0 _
  have hsz : (DataW.weightsEach Try.prog (Try.f3.params.toList ++ Rows.diskKeepsSpec.plain.varTypes Try.prog) (ds ++ gs)).all (· ≤ reachBytes) = true := hsz0
  have hval : ∀ (j : Nat) t v, Try.f3.params[j]? = some t → args[j]? = some v → Value.okWide Try.prog W .any base t v := hval0
  have hW' := hW
  obtain ⟨p, q, hA0, hV, rfl, hfz, hnd⟩ := hW
  have hA : DataW.TrodAll enc Try.prog W 0 (fun _ => true) true Try.f3.params.toList args.toList ds p := hA0
  rw [Try.params3] at hA hval hsz
  obtain ⟨v0, vs0, d0, ds0, p0, q0, hargs, rfl, rfl, h0, r0⟩ := trodAll_cons hA
  obtain ⟨v1, vs1, d1, ds1, p1, q1, rfl, rfl, rfl, h1, r1⟩ := trodAll_cons r0
  obtain ⟨v2, vs2, d2, ds2, p2, q2, rfl, rfl, rfl, h2, r2⟩ := trodAll_cons r1
  obtain ⟨v3, vs3, d3, ds3, p3, q3, rfl, rfl, rfl, h3, r3⟩ := trodAll_cons r2
  obtain ⟨rfl, rfl, rfl⟩ := trodAll_nil r3
  obtain rfl : args = #[v0, v1, v2, v3] := by cases args; simp_all
  obtain ⟨rfl, rfl⟩ := trodVars_none hV
  obtain ⟨a0, rfl, rfl, rfl, y0⟩ := open_string Try.underlying9 (hval 0 9 v0 rfl rfl) h0
  have w0 : a0.size ≤ 140737488351232 := by
    have z := sized_string hsz (j := 0) (t := 9) rfl rfl
    rw [Array.length_toList] at z
    exact z
  obtain ⟨a1, len1, cap1, rfl⟩ := okWide_slice Try.underlying22 (hval 1 22 v1 rfl rfl)
  have k1 := h1
  have lt1 : ∀ x ∈ p1, x.block < W.heap.size := by obtain ⟨m, hm⟩ := k1; exact DataW.trod_lt m _ _ _ hm
  obtain ⟨x1, s1, n1, z1⟩ := (by obtain ⟨fuel, hf⟩ := h1; exact open_strRow Try.underlying22 Try.underlying9 (by kernel_rfl) hf : ∃ xs, StrRow W a1 xs ∧ xs.length = len1 ∧ ∀ s ∈ xs, s.size ≤ 9223372036854775807)
  obtain ⟨a2, rfl, rfl, rfl, w2⟩ := open_int Try.underlying23 (hval 2 23 v2 rfl rfl) h2
  obtain ⟨a3, rfl, rfl, rfl, w3⟩ := open_int Try.underlying3 (hval 3 3 v3 rfl rfl) h3
  clear hA0 hval0 hsz0 hsz
  refine (diskKeepsB a0 w0 a1 len1 cap1 x1 a2 (u64_lo w2) (u64_hi w2) a3 W s1 n1 z1).mono fun e W' ⟨he, bel⟩ => ?_
  subst he
  exact ⟨_, rfl, _, _, _, [], _, [], hW', trodAll_mk1 (shut_bool Try.underlying4 _), (trodAll_cons_mk (shut_string Try.underlying9 y0) (trodAll_cons_mk (Below.trod pLaid (by kernel_rfl) (of_decide_eq_true (by kernel_rfl)) k1 bel lt1) (trodAll_cons_mk (shut_int Try.underlying23 w2) (trodAll_cons_mk (shut_int Try.underlying3 w3) trodAll_mk0)))), rfl, bel.frame _, fun h => by cases h⟩
theorem k1 : Rows.diskKeepsRow.wf (OpenSpec.ofChange Rows.diskKeepsSpec) = true := by kernel_rfl
theorem k4 : Try.f3.params.all (Try.prog.readableRec ·) = true := by kernel_rfl
theorem k5 : namedTie Try.prog Rows.diskKeepsRow.named Rows.diskKeepsSpec.vars = true := by kernel_rfl
theorem k6 : (Rows.diskKeepsRow.stops == []) = true := by kernel_rfl
theorem k8 : (Rows.diskKeepsRow.knobs == []) = true := by kernel_rfl
theorem k10 : (Rows.diskKeepsRow.inPlace == Try.prog.inPlace 3) = true := by kernel_rfl
theorem k11 : (Rows.diskKeepsRow.unfollowed == Try.prog.unfollowed 3) = true := by kernel_rfl
theorem k12 : (Rows.diskKeepsRow.recurses == Try.prog.recurses 3) = true := by kernel_rfl
theorem k13 : (Rows.diskKeepsRow.named == Try.prog.varsNamed 3) = true := by kernel_rfl
theorem k14 : (Rows.diskKeepsRow.maps == (Try.f3.params.toList ++ Rows.diskKeepsSpec.plain.varTypes Try.prog).any (Try.prog.mapsRec ·)) = true := by kernel_rfl
theorem k15 : (Rows.diskKeepsRow.ifaces == (Try.f3.params.toList ++ Rows.diskKeepsSpec.plain.varTypes Try.prog).any (Try.prog.ifacesRec ·)) = true := by kernel_rfl
theorem k16 : (Rows.diskKeepsRow.mapsOut == Try.prog.mapsAmong Try.f3.resultTypes.toList) = true := by kernel_rfl
theorem k17 : (Rows.diskKeepsRow.loops == (Try.f3.params.toList ++ Rows.diskKeepsSpec.plain.varTypes Try.prog).any (Try.prog.loopsFrom ·)) = true := by kernel_rfl
theorem k18 : (Rows.diskKeepsRow.wideKeys == (Try.f3.params.toList ++ Rows.diskKeepsSpec.plain.varTypes Try.prog ++ Try.f3.resultTypes.toList).any (Try.prog.wideKeysFrom ·)) = true := by kernel_rfl
theorem k19 : Rows.diskKeepsSpec.vars.all (Try.prog.varReadable ·) = true := by kernel_rfl
theorem k20 : Try.f3.resultTypes.all (fun t => Try.prog.readableRec t && decide (t < Try.prog.types.size)) = true := by kernel_rfl
theorem k21 : (Rows.diskKeepsRow.ifacesOut == Try.f3.resultTypes.toList.any (Try.prog.ifacesRec ·)) = true := by kernel_rfl
theorem k22 : (Rows.diskKeepsRow.loopsOut == Try.f3.resultTypes.toList.any (Try.prog.loopsFrom ·)) = true := by kernel_rfl
theorem k23 : (Rows.diskKeepsRow.plainKeys == Try.prog.plainKeys) = true := by kernel_rfl
theorem k24 : Rows.diskKeepsRow.shortTexts.isNone = true := by kernel_rfl
theorem k28 : (Try.prog.make == some Rows.diskKeepsRow.make) = true := by kernel_rfl
theorem k30 : (Rows.diskKeepsRow.pinned == Rows.diskKeepsRow.pinnedBy) = true := by kernel_rfl
theorem k31 : (Rows.diskKeepsRow.veiled == (Try.f3.params.toList ++ Rows.diskKeepsSpec.plain.varTypes Try.prog ++ Try.f3.resultTypes.toList).any (Try.prog.veiledRec ·)) = true := by kernel_rfl
theorem k32 : Rows.diskKeepsRow.veiledFits Try.prog Try.f3.params.toList (Try.f3.params.toList ++ Rows.diskKeepsSpec.plain.varTypes Try.prog ++ Try.f3.resultTypes.toList) = true := by kernel_rfl
theorem k27 : (Rows.diskKeepsRow.lifted == Try.prog.liftsFinal) = true := pLifts
theorem closed : joinedFacts Try.prog 3 Try.f3 Rows.diskKeepsSpec Rows.diskKeepsRow = true := by
  simp only [joinedFacts, pLaid, pMaps, pStops, pKnobs, pHeard, pEnter, k27, k1, k4, k5, k6, k8, k10, k11, k12, k13, k14, k15, k16, k17, k18, k19, k20, k21, k22, k23, k24, k28, k30, k31, k32, Bool.and_true, Bool.true_and]
  kernel_rfl
theorem isNamed : Try.prog.funcNamed Rows.diskKeepsRow.func = some 3 := by kernel_rfl
theorem isInst : Try.f3.isInstance Try.prog Rows.diskKeepsRow.origin Rows.diskKeepsRow.targs := of_decide_eq_true (by kernel_rfl)
theorem isWrap : Try.f3.isWrapper Try.prog Rows.diskKeepsRow.wrapper Rows.diskKeepsRow.mainSum := by unfold Func.isWrapper; first | (rw [if_pos (by decide +kernel)]; kernel_rfl) | (rw [if_neg (by decide +kernel)]; exact ⟨rfl, rfl⟩)
theorem over : Rows.diskKeepsRow.holds Try.pinned (OpenSpec.ofChange Rows.diskKeepsSpec) :=
  OpenClaim.holds_of_wide 3 Try.f3 rfl rfl rfl rfl rfl rfl rfl ⟨rfl, rfl, rfl, rfl, rfl⟩ rfl rfl rfl rfl rfl isNamed Try.func3 closed isInst isWrap
    (fun os started H enc _ => lifted os started H enc)
end Go.Proofs.Ytkbapegohodcgaa.RowDiskKeeps
namespace Go.Proofs.Ytkbapegohodcgaa
/-- The row, under a short name. -/
theorem diskKeeps_holds : Rows.DiskKeepsSaid := RowDiskKeeps.over
#print axioms diskKeeps_holds
end Go.Proofs.Ytkbapegohodcgaa
