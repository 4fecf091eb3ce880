/- pack.Reader.Text behind an error; a scope with one label back and one ahead; a result of two temporaries and a cell. -/
import Derived.Test.YtabkaflccaklhaaQJou3
import Derived.Test.YtabkaflccaklhaaQGoto
set_option linter.unusedSimpArgs false
set_option linter.unusedVariables false
namespace Go
section
variable {P : Program} {a : Act} {w : World} {Q : Exit → Act → World → Prop}
/-- As Q; by a goto to l: J; by a goto to l1: D. -/
def Exit.two (l l1 : Nat) (J D : Act → World → Prop) (Q : Exit → Act → World → Prop) : Exit → Act → World → Prop
  | .goto l', a, w => (l' = l ∧ J a w) ∨ (l' = l1 ∧ D a w)
  | e, a, w => Q e a w
theorem Exit.two_back {c r1 : Code} {l l1 : Nat} {J D : Act → World → Prop} (hf1 : findLabel c l1 = some r1) (done : ∀ a w, D a w → r1.wp P (Exit.noGoto Q) a w) : ∀ e a w, Exit.two l l1 J D Q e a w → Exit.back P c l J Q e a w := by
  intro e a w h
  cases e with
  | goto l' =>
    rcases h with h | ⟨rfl, hd⟩
    · exact .inl h
    · exact .inr ⟨r1, hf1, done _ _ hd⟩
  | _ => exact h
theorem Exit.two_mono {l l1 : Nat} {J J' D : Act → World → Prop} (hJ : ∀ a w, J a w → J' a w) : ∀ e a w, Exit.two l l1 J D Q e a w → Exit.two l l1 J' D Q e a w := by
  intro e a w h
  cases e with
  | goto l' => exact h.imp (fun ⟨e, k⟩ => ⟨e, hJ _ _ k⟩) id
  | _ => exact h
theorem wp_scope_two {c r r1 : Code} (l l1 : Nat) (J D : Act → World → Prop) (μ : Act → World → Nat) (hf0 : findLabel c l = some (Code.skip.seq r)) (hf1 : findLabel c l1 = some r1) (done : ∀ a w, D a w → r1.wp P (Exit.noGoto Q) a w)
    (pass0 : ∀ a w, J a w → r.wp P (Exit.two l l1 (fun a' w' => J a' w' ∧ μ a' w' < μ a w) D Q) a w)
    (first : (∀ a w, J a w → r.wp P (Exit.two l l1 J D Q) a w) → c.wp P (Exit.two l l1 J D Q) a w) : (Code.scope c).wp P Q a w :=
  wp_scope_back l J μ hf0 (fun a w h => Code.wp_mono (Exit.two_back hf1 done) (pass0 a w h))
    (fun _ => Code.wp_mono (Exit.two_back hf1 done) (first fun a w h => Code.wp_mono (Exit.two_mono fun _ _ h => h.1) (pass0 a w h)))
theorem results_ttc {fn : Func} {p q u : Tmp} {ty : TypeId} (h : fn.results = #[.tmp p, .tmp q, .cell u ty]) (tmps : Array Value) (w : World) (g : Nat) (t : TypeId) (cs : Array Value) (fr : Nat × Nat) (d : TypeDesc)
    (hp : tmps.getD u undef = .pointer (some ⟨g, 0, none⟩)) (hg : w.heap[g]? = some (.cells cs t fr))
    (hu : P.underlying ty = some d) (hd : (match d with | .struct _ | .array _ _ => true | _ => false) = true) (hi : (P.info? ty).map (·.size) = some cs.size) :
    (results fn tmps).run P w = .ok (.tuple #[tmps.getD p undef, tmps.getD q undef, .agg cs]) w := by
  have h1 : (asAddr (.pointer (some ⟨g, 0, none⟩))).run P w = .ok ⟨g, 0, none⟩ w := by simp [asAddr]
  have hp' : tmps[u]?.getD undef = .pointer (some ⟨g, 0, none⟩) := by rw [← hp]; simp
  simp only [results, h]
  simp [Sem.run_bind, Result.andThen, hp', h1, run_loadVar_row w g t ty cs fr d hg hu hd hi]
end
end Go
namespace Go.Proofs.Ytabkaflccaklhaa
open Go.RowKit
open Go.Qk hiding rotr b4
open Pac
set_option maxHeartbeats 1000000
set_option maxRecDepth 100000
theorem rdCount_err (g : Nat) (L : List UInt8) (p most : Nat) (e : Int) (he : e ≠ 0) (w : World) (hg : w.heap[g]? = some (rdOb L p e)) :
    Calls Try.prog 117 #[ptrV g, .int .i64 (most : Int)] w fun r w' => r = .returned (.tuple #[.int .i64 0, .bool false]) ∧ w'.heap[g]? = some (rdOb L p e) ∧ Fr (fun k => k = g) w w' := by
  have HG := hid hg
  have HN := hid (rdNum_err g L p e he w hg)
  have t1 : (e == 0) = false := by simp [he]
  clear hg he
  unfold ptrV at *
  go_enter Try.func117, Try.ntmps117
  have HB := hid (grow_refl w)
  clear HB
  go_wp2_with (first | (refine opG_load1 (i := 0) (v := (.string (bs L))) rfl rfl rfl HG.out rfl Try.underlying9 rfl ?_) | (refine opG_load1 (i := 1) (v := (.int .i64 (p : Int))) rfl rfl rfl HG.out rfl Try.underlying3 rfl ?_) | (refine opG_load1 (i := 2) (v := (.int .i64 e)) rfl rfl rfl HG.out rfl Try.underlying34 rfl ?_) |  fail)
  refine HN.out.mono ?_
  rintro _ w1 ⟨rfl, hg, hf⟩
  have HG1 := hid hg
  have HF1 := hid hf
  clear hg hf HG HN
  go_wp2_with (first | (refine opG_load1 (i := 0) (v := (.string (bs L))) rfl rfl rfl HG1.out rfl Try.underlying9 rfl ?_) | (refine opG_load1 (i := 1) (v := (.int .i64 (p : Int))) rfl rfl rfl HG1.out rfl Try.underlying3 rfl ?_) | (refine opG_load1 (i := 2) (v := (.int .i64 e)) rfl rfl rfl HG1.out rfl Try.underlying34 rfl ?_) |  fail)
  (refine' wp_region_head 8 0 [_, _, _, _, _, _, _, _] rfl (by kernel_rfl) (by kernel_rfl) ?hreg1; case' hreg1 => simp only [List.take_succ_cons, List.take_zero, List.zip_cons_cons, List.zip_nil_right, List.drop_succ_cons, List.drop_zero, List.drop_nil])
  (refine' head_val ?dw2 ?de2 ?dr2 ?dh2; (case' dw2 => rfl); (case' de2 => (first | exact fun _ _ _ => trivial | (intro t ht w; cases ht; simp [upE]))); (case' dr2 => (intro w' hw' _; go_simp; with_reducible rfl)); (case' dh2 => (try simp only [Act.put, List.setIfInBounds_toArray, List.set_cons_zero, List.set_cons_succ]))); (refine' head_val ?dw3 ?de3 ?dr3 ?dh3; (case' dw3 => rfl); (case' de3 => (first | exact fun _ _ _ => trivial | (intro t ht w; cases ht; simp [upE]))); (case' dr3 => (intro w' hw' _; go_simp; with_reducible rfl)); (case' dh3 => (try simp only [Act.put, List.setIfInBounds_toArray, List.set_cons_zero, List.set_cons_succ]))); (refine' head_val ?dw4 ?de4 ?dr4 ?dh4; (case' dw4 => rfl); (case' de4 => (first | exact fun _ _ _ => trivial | (intro t ht w; cases ht; simp [upE]))); (case' dr4 => (intro w' hw' _; go_simp; with_reducible rfl)); (case' dh4 => (try simp only [Act.put, List.setIfInBounds_toArray, List.set_cons_zero, List.set_cons_succ]))); (refine' head_val ?dw5 ?de5 ?dr5 ?dh5; (case' dw5 => rfl); (case' de5 => (first | exact fun _ _ _ => trivial | (intro t ht w; cases ht; simp [upE]))); (case' dr5 => (intro w' hw' _; go_simp; with_reducible rfl)); (case' dh5 => (try simp only [Act.put, List.setIfInBounds_toArray, List.set_cons_zero, List.set_cons_succ])))
  (refine' head_load1 (i := 2) (v := (.int .i64 e)) rfl ?_ rfl rfl HG1.out rfl Try.underlying34 rfl ?_; (first | exact fun _ _ _ => trivial | (intro t ht w; cases ht; simp [upE])); try simp only [Act.put, List.setIfInBounds_toArray, List.set_cons_zero, List.set_cons_succ])
  (refine' head_val ?dw6 ?de6 ?dr6 ?dh6; (case' dw6 => rfl); (case' de6 => (first | exact fun _ _ _ => trivial | (intro t ht w; cases ht; simp [upE]))); (case' dr6 => (intro w' hw' _; go_simp; with_reducible rfl)); (case' dh6 => (try simp only [Act.put, List.setIfInBounds_toArray, List.set_cons_zero, List.set_cons_succ]))); (refine' head_val ?dw7 ?de7 ?dr7 ?dh7; (case' dw7 => rfl); (case' de7 => (first | exact fun _ _ _ => trivial | (intro t ht w; cases ht; simp [upE]))); (case' dr7 => (intro w' hw' _; go_simp; with_reducible rfl)); (case' dh7 => (try simp only [Act.put, List.setIfInBounds_toArray, List.set_cons_zero, List.set_cons_succ]))); (refine' head_val ?dw8 ?de8 ?dr8 ?dh8; (case' dw8 => rfl); (case' de8 => (first | exact fun _ _ _ => trivial | (intro t ht w; cases ht; simp [upE]))); (case' dr8 => (intro w' hw' _; go_simp; with_reducible rfl)); (case' dh8 => (try simp only [Act.put, List.setIfInBounds_toArray, List.set_cons_zero, List.set_cons_succ])))
  refine head_nil ?_
  intro w2 hb _
  replace HG1 := hid (grow_block HG1.out hb)
  replace HF1 := hid (Fr.trans HF1.out (fr_grow hb))
  clear hb
  refine wpList_nil ?_
  go_wp2_with fail
  go_ret2
  exact ⟨rfl, HG1.out, HF1.out⟩
theorem rdText_err (g : Nat) (L : List UInt8) (p most : Nat) (e : Int) (he : e ≠ 0) (w : World) (hg : w.heap[g]? = some (rdOb L p e)) :
    Calls Try.prog 55 #[ptrV g, .int .i64 (most : Int)] w fun r w' => r = .returned (.string ByteArray.empty) ∧ w'.heap[g]? = some (rdOb L p e) ∧ Fr (fun k => k = g) w w' := by
  have HG := hid hg
  have HC := hid (rdCount_err g L p most e he w hg)
  clear hg he
  unfold ptrV at *
  go_enter Try.func55, Try.ntmps55
  have HB := hid (grow_refl w)
  clear HB
  go_wp2_with (first | (refine opG_load1 (i := 0) (v := (.string (bs L))) rfl rfl rfl HG.out rfl Try.underlying9 rfl ?_) | (refine opG_load1 (i := 1) (v := (.int .i64 (p : Int))) rfl rfl rfl HG.out rfl Try.underlying3 rfl ?_) | (refine opG_load1 (i := 2) (v := (.int .i64 e)) rfl rfl rfl HG.out rfl Try.underlying34 rfl ?_) |  fail)
  refine HC.out.mono ?_
  rintro _ w1 ⟨rfl, hg, hf⟩
  have HG1 := hid hg
  have HF1 := hid hf
  clear hg hf HG HC
  go_wp2_with fail
  go_ret
  exact ⟨rfl, HG1.out, HF1.out⟩
theorem frame62 (T : Array Value) (h : T.size = 62) : ∃ U : Nat → Value, T = #[U 0, U 1, U 2, U 3, U 4, U 5, U 6, U 7, U 8, U 9, U 10, U 11, U 12, U 13, U 14, U 15, U 16, U 17, U 18, U 19, U 20, U 21, U 22, U 23, U 24, U 25, U 26, U 27, U 28, U 29, U 30, U 31, U 32, U 33, U 34, U 35, U 36, U 37, U 38, U 39, U 40, U 41, U 42, U 43, U 44, U 45, U 46, U 47, U 48, U 49, U 50, U 51, U 52, U 53, U 54, U 55, U 56, U 57, U 58, U 59, U 60, U 61] ∧ ∀ k, T.getD k undef = U k := by
  refine ⟨fun k => T.getD k undef, ?_, fun _ => rfl⟩
  have e : T = ((List.range 62).map fun k => T.getD k undef).toArray := by
    apply Array.ext
    · simp [h]
    · intro i h1 h2
      simp [h1]
  exact e.trans rfl
end Go.Proofs.Ytabkaflccaklhaa
