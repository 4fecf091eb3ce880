/- witness.Keeps: the leaves that were seen stand in a map. -/
import Derived.Test.YtabkaflccaklhaaGreatQWitRS
import Derived.Maps.OwnSet
set_option linter.unusedSimpArgs false
set_option linter.unusedVariables false
namespace Go.Proofs.YtabkaflccaklhaaGreat
open Go.RowKit
open Go.Qk hiding rotr b4
set_option maxHeartbeats 4000000
set_option maxRecDepth 100000
def setD : List Int → DataW Unit
  | [] => .map []
  | x :: xs => (setD xs).put (.int .i64 x) (.lit (.bool true))
theorem setD_map : ∀ xs, Maps.IsMap (setD xs)
  | [] => ⟨[], rfl⟩
  | x :: xs => by
    obtain ⟨es, e⟩ := setD_map xs
    unfold setD
    rw [e]
    exact ⟨_, rfl⟩
theorem setD_at (y : Int) : ∀ xs : List Int, (setD xs).atKey (.int .i64 y) (.lit (.bool false)) = .lit (.bool (decide (y ∈ xs)))
  | [] => rfl
  | x :: xs => by
    unfold setD
    by_cases h : y = x
    · subst h
      rw [Maps.atKey_put_same (setD_map xs) (show WideAt.IsKeyLit (.int .i64 y) from trivial)]
      simp
    · rw [Maps.atKey_put_other (by intro e; cases e; exact h rfl), setD_at y xs]
      simp [h]
theorem set_look {w : World} {b n : Nat} {xs : List Int} (h : w.ownsMap Tryz.prog 3 (plainElem Tryz.prog 4) b n (setD xs)) (y : Int) (hw : (Lit.int .i64 y).wf = true) :
    (Instr.lookup 132 (.map (some b)) (.int .i64 y) false).run Tryz.prog w = .ok (.bool (decide (y ∈ xs))) w := by
  obtain ⟨v, ps, hrun, hv⟩ := h.lookup (Maps.int_keyed Tryz.underlying3) Tryz.underlying132 (z := .bool false) (by kernel_rfl) (plainElem_bool Tryz.underlying4 false) (Maps.keyOf_int_mk Tryz.underlying3 hw)
  rw [setD_at] at hv
  have e : v = .bool (decide (y ∈ xs)) := by
    unfold plainElem at hv
    rw [Tryz.underlying4] at hv
    cases v <;> simp at hv
    rw [hv.1]
  rw [← e]
  exact hrun
def seenR (fs : List WRow) (k : Nat) : List Int := ((fs.take k).map Prod.fst).reverse
theorem seenR_succ {fs : List WRow} {k : Nat} (h : k < fs.length) : seenR fs (k + 1) = (fs.getD k wr0).1 :: seenR fs k := by
  unfold seenR
  have e : fs.getD k wr0 = fs[k] := by simp [h]
  rw [List.take_succ_eq_append_getElem h, List.map_append, List.reverse_append, e]
  rfl
theorem nodup_rev (l : List Int) : l.reverse.Nodup ↔ l.Nodup := by
  unfold List.Nodup
  rw [List.pairwise_reverse]
  exact ⟨fun h => h.imp Ne.symm, fun h => h.imp Ne.symm⟩
theorem seen_sub (fs : List WRow) (k : Nat) (h : keepsW fs) : (seenR fs k).Nodup := by
  unfold seenR
  rw [nodup_rev]
  exact List.Nodup.sublist ((List.take_sublist k fs).map Prod.fst) h
theorem seen_dup {fs : List WRow} {k : Nat} (hk : k < fs.length) (h : (fs.getD k wr0).1 ∈ seenR fs k) : ¬ keepsW fs := fun hh => by
  have := seen_sub fs (k + 1) hh
  rw [seenR_succ hk] at this
  exact (List.nodup_cons.1 this).1 h
theorem seen_all {fs : List WRow} (h : (seenR fs fs.length).Nodup) : keepsW fs := by
  unfold seenR at h
  rw [nodup_rev, List.take_length] at h
  exact h
theorem wKeeps (A : Option Addr) (n c : Nat) (fs : List WRow) (kb : Bool) (w : World) (hx : WrRow w A fs) (hn : fs.length = n) (h32 : ∀ x ∈ fs, x.2.length = 32) (hwf : ∀ x ∈ fs, (Lit.int .i64 x.1).wf = true) (hb : n ≤ 1000000) (hkb : kb = true ↔ keepsW fs) :
    Calls Tryz.prog 39 #[.slice A n c] w fun e w' => e = .returned (.bool kb) ∧ Below w.heap.size w w' := by
  have HX := hid hx
  have HN := hid hn
  have H32 := hid h32
  have HWF := hid hwf
  have HK := hid hkb
  have n9 : n ≤ 9223372036854775807 := by omega
  have hmm := @run_makeMap Tryz.prog
  clear hx hn h32 hwf hkb
  go_enter Tryz.func39, Tryz.ntmps39
  have HB := hid (grow_refl w)
  go_wp2_with fail
  go_loopg [9] (n + 1) (fun z i wr => ∃ k : Nat, k ≤ n ∧ z = n + 1 - k ∧ i = .int .i64 (k : Int) ∧ Hid (wr.ownsMap Tryz.prog 3 (plainElem Tryz.prog 4) w.heap.size k (setD (seenR fs k))) ∧ Hid ((seenR fs k).Nodup) ∧ Hid (Grow w wr))
  case atStart => exact ⟨0, by omega, by omega, rfl, hid (World.ownsMap_made _ _ _ _), hid List.nodup_nil, hid (grow_alloc _ _)⟩
  case round =>
    clear HB
    obtain ⟨k, hk, hz, rfl, HO, HD, HB⟩ := hrel
    have k0 : (0 : Int) ≤ (k : Int) := by omega
    by_cases hlt : k < n
    · have k1 : (k : Int) < (n : Int) := by omega
      have hkl : k < fs.length := by rw [HN.out]; exact hlt
      obtain ⟨ad, rfl, hc⟩ := (HX.out.grow HB.out).at_ k hkl
      have HC := hid hc
      have HM := hid (wr_mem hkl)
      have HX32 := hid (H32.out _ HM.out)
      have HW := hid (HWF.out _ HM.out)
      have HSS := hid (seenR_succ hkl)
      have HSD := hid (seen_dup hkl)
      clear hc
      generalize fs.getD k wr0 = x at *
      have HCL := hid (wrCells_length HX32.out)
      go_wp2_with (first | (refine wpList_load_agg rfl 116 _ rfl _ rfl (wrCells x) _ HC.out Tryz.underlying116 rfl (infoWRow HX32.out) ?_) | (refine op_allocstoreB (z := wrCells wr0) (cs := wrCells x) rfl rfl rfl rfl rfl rfl (fun _ => by kernel_rfl) (fun _ => rfl) (fun _ => rfl) (by rw [HCL.out, wrCells_length (zero8_length 32)]) (infoWRow HX32.out) (oneWr _) ?_) | fail)
      intro g5 w3 hgl hgu hb3 hr
      have H5 := hid hr
      replace HO := hid (HO.out.kept (grownBy_grow hb3 none) (by simp))
      replace HB := hid (Grow.trans HB.out hb3)
      clear hgl hgu hb3 hr HC
      have hlk := set_look HO.out x.1 HW.out
      cases hin : decide (x.1 ∈ seenR fs k) with
      | true =>
        rw [hin] at hlk
        have HKF := hid (show kb = false by
          cases hkk : kb with
          | false => rfl
          | true => exact absurd (HK.out.1 hkk) (HSD.out (of_decide_eq_true hin)))
        clear hin
        go_wp2_with (first | (refine opG_load1 (i := 0) (v := .int .i64 x.1) rfl rfl rfl H5.out rfl Tryz.underlying3 rfl ?_) | fail)
        go_ret
        exact ⟨by rw [HKF.out]; rfl, HB.out⟩
      | false =>
        rw [hin] at hlk
        have HD' := hid (show (seenR fs (k + 1)).Nodup by rw [HSS.out]; exact List.nodup_cons.2 ⟨of_decide_eq_false hin, HD.out⟩)
        have HSZ := hid HB.out.size
        clear hin
        go_wp2_with (first | (refine opG_load1 (i := 0) (v := .int .i64 x.1) rfl rfl rfl H5.out rfl Tryz.underlying3 rfl ?_) | (refine wpList_mapUpdate_own _ rfl _ _ _ 132 rfl 3 4 (Maps.int_keyed Tryz.underlying3) Tryz.underlying132 _ w.heap.size k _ rfl HO.out (by unfold maxLen; omega) _ _ _ rfl rfl (Maps.keyOf_int_mk Tryz.underlying3 HW.out) _ [] (plainElem_bool Tryz.underlying4 true) ?_) | fail)
        intro w4 ho4 hg4
        have HO4 := hid ho4
        have HB4 := hid (show Grow w w4 from Below.grown HB.out hg4 HSZ.out (fun k hk => by cases hk; exact Nat.le_refl _))
        clear ho4 hg4 HO HB hlk H5
        go_wp2_with fail
        go_roundg (n + 1 - (k + 1))
        case rel => exact ⟨k + 1, by omega, rfl, by go_num, hid (by rw [HSS.out]; exact HO4.out), HD', HB4⟩
        case measure => omega
    · obtain rfl : k = n := by omega
      have HKT := hid (show kb = true from HK.out.2 (seen_all (by rw [HN.out]; exact HD.out)))
      go_wp2_with fail
      go_ret
      exact ⟨by rw [HKT.out]; rfl, HB.out⟩
end Go.Proofs.YtabkaflccaklhaaGreat
