/- Rows of ids appended whole; rows of two ids; ids of one byte. -/
import Derived.Test.YtkibibgbmkejjaaQSetE
set_option linter.unusedSimpArgs false
set_option linter.unusedVariables false
namespace Go.Qk
open Go.RowKit
theorem idCells_at (xs : List (List UInt8)) (h : ∀ s ∈ xs, s.length = 32) (j : Nat) (u : Value) (hj : (idCells xs)[j]? = some u) : j / 32 < xs.length ∧ (u8s (xs.getD (j / 32) []))[j % 32]? = some u := by
  have hl := (List.getElem?_eq_some_iff.1 hj).1
  rw [idCells_length xs h] at hl
  have hi : j / 32 < xs.length := by omega
  have h32 : (xs.getD (j / 32) []).length = 32 := h _ (by simp [hi])
  have hr : j % 32 < (u8s (xs.getD (j / 32) [])).length := by rw [u8s_length, h32]; omega
  have hv := List.getElem?_eq_getElem hr
  have hc := idCells_get xs h (j / 32) hi (j % 32) _ hv
  rw [show j / 32 * 32 + j % 32 = j by omega] at hc
  rw [hc] at hj
  exact ⟨hi, by rw [hv]; exact hj⟩
theorem idRow_cells {w : World} {ad : Addr} {xs : List (List UInt8)} (h : IdRow w (some ad) xs) (h32 : ∀ s ∈ xs, s.length = 32) (j : Nat) (u : Value) (hj : (idCells xs)[j]? = some u) : w.cell? (ad.add j) = some u := by
  obtain ⟨hi, hc⟩ := idCells_at xs h32 j u hj
  obtain ⟨ad', e, hh⟩ := h.at_ _ hi
  obtain rfl := Option.some.inj e
  have := hh _ _ hc
  rw [addr_add_add, show j / 32 * 32 + j % 32 = j by omega] at this
  exact this
theorem cells_idRow {w : World} {ad : Addr} {xs : List (List UInt8)} (h32 : ∀ s ∈ xs, s.length = 32) (hl : xs.length ≤ 9223372036854775807) (h : ∀ j u, (idCells xs)[j]? = some u → w.cell? (ad.add j) = some u) : IdRow w (some ad) xs :=
  ⟨hl, fun _ => ⟨ad, rfl, fun i hi j v hv => by rw [addr_add_add]; exact h _ _ (idCells_get xs h32 i hi j v hv)⟩⟩
end Go.Qk
namespace Go.Proofs.Ytkibibgbmkejjaa
open Go.RowKit
open Go.Qk hiding rotr b4
set_option maxHeartbeats 1000000
set_option maxRecDepth 100000
section
variable {ops : Array Oper} {Q : Exit → Act → World → Prop} {rest : List Oper} {o o2 : Oper} {a : Act} {w : World}
theorem run_app_none {B : Nat} {v : Value} {n : Nat} {xs : List Value} (hown : w.ownsRow B 23 32 v n xs) (c : Nat) (ty : TypeId) : (Builtin.append_ #[35, 35] ty #[v, .slice none 0 c]).run Try.prog w = .ok v w := by
  obtain ⟨i, i1, i2, i3, i4⟩ := info_parts infoId
  rcases hown.2 with ⟨rfl, rfl⟩ | ⟨g, cap, cur, rfl, _, _, hnc, _⟩
  · simp [Builtin.append_, run_underlying Try.underlying35, sizeOf, typeInfo, i1, Builtin.lenOf, Builtin.firstCells]
  · simp [Builtin.append_, run_underlying Try.underlying35, sizeOf, typeInfo, i1, Builtin.lenOf, Builtin.firstCells, hnc, storeCells]
/-- append(out, xs...). -/
theorem op_appRow {x y : Operand} {v : Value} {ys xs : List (List UInt8)} {A : Option Addr} {c : Nat} {B : Nat} {w0 : World} (hgd : o.guard = none) (ho : o.op = .call { callee := .builtin .append, args := #[x, y], argTypes := #[35, 35] })
    (hx : a.eval x = v) (hy : a.eval y = .slice A xs.length c) (hown : OwnIds 23 B w v ys) (hr : IdRow w A xs) (h32 : ∀ s ∈ xs, s.length = 32) (hb : Below B w0 w) (hB : B ≤ w.heap.size) (hlen : ys.length + xs.length ≤ 1000000000)
    (h : ∀ v' w', OwnIds 23 B w' v' (ys ++ xs) → Below B w0 w' → B ≤ w'.heap.size → wpList Try.prog ops Q rest (a.put o.dst v') w') : wpList Try.prog ops Q (o :: rest) a w := by
  cases A with
  | none =>
    have hxs : xs = [] := by
      by_cases e : xs = []
      · exact e
      · obtain ⟨_, e2, _⟩ := hr.2 e
        cases e2
    subst hxs
    refine wpList_val (v := v) (w' := w) hgd ?_ (h v w (by simpa using hown) hb hB)
    unfold execOp
    simp only [ho, resolve, invoke, builtin, Sem.run_bind, Sem.run_pure, Result.andThen_ok, List.map_toArray, List.map_cons, List.map_nil, hx, hy, List.length_nil, run_app_none hown.1]
  | some ad =>
    refine app_cells (P := Try.prog) (w0 := w0) (B := B) x y 35 23 (idV (zero8 32)) 32 32 v ys.length (idCells ys) (idCells xs) ad xs.length c hgd ho Try.underlying35 infoId (by simp [idV_cells, u8s_length, zero8]) (by omega) hx hy (idCells_length xs h32) (idRow_cells hr h32) (idCells_one xs) hown.1 hb hB (by omega) (by omega) ?_
    intro v' w' h1 h2 h3
    refine h v' w' ⟨?_, fun s hs => ?_⟩ h2 h3
    · rw [List.length_append, idCells_append]
      exact h1
    · rcases List.mem_append.1 hs with hs | hs
      · exact hown.2 s hs
      · exact h32 s hs
/-- []api.Id{a, b}. -/
theorem op_rowIds2 {l1 l2 : List UInt8} {y1 y2 : Operand} (hgd : o.guard = none) (ho : o.op = .buildSlice 35 2 #[(0, y1), (1, y2)]) (h1 : a.eval y1 = idV l1) (h2 : a.eval y2 = idV l2) (hl1 : l1.length = 32) (hl2 : l2.length = 32)
    (h : ∀ ad W, Grow w W → IdRow W (some ad) [l1, l2] → wpList Try.prog ops Q rest (a.put o.dst (.slice (some ad) 2 2)) W) : wpList Try.prog ops Q (o :: rest) a w := by
  have h32 : ∀ s ∈ [l1, l2], s.length = 32 := fun s hs => by simp at hs; rcases hs with hs | hs <;> rw [hs] <;> assumption
  have hr := run_buildIds w [l1, l2] 2 rfl (by omega) (by omega) h32
  have hp : #[(0, y1), (1, y2)].map (fun (i, y) => (i, a.eval y)) = ((([l1, l2].map idV).zipIdx 0).map Prod.swap).toArray := by simp [h1, h2]
  refine wpList_val (v := .slice (some ⟨w.heap.size, 0, none⟩) 2 2) (w' := w.alloc (.cells (idCells [l1, l2]).toArray 23)) hgd ?_ (h _ _ (grow_alloc _ _) (cells_idRow h32 (by simp) (fun j u hj => cells_new w _ _ j u hj)))
  unfold execOp
  simp only [ho, hp, Sem.run_bind, Sem.run_pure, Result.andThen_ok, hr]
theorem opG_loadAt {x : Operand} {ad : Addr} {l : List UInt8} (ho : o.op = .load 23 x) (hw : Region.wanted o (yielded ops a.tmps) = true) (hx : a.eval x = .pointer (some ad)) (hc : ∀ j v, (u8s l)[j]? = some v → w.cell? (ad.add j) = some v) (hl : l.length = 32)
    (h : wpList Try.prog ops Q rest (a.put o.dst (idV l)) w) : wpList Try.prog ops Q (o :: rest) a w := by
  refine wpList_want (v := idV l) (w' := w) hw ?_ h
  unfold execOp
  simp only [ho, hx, Sem.run_bind, Sem.run_pure, Result.andThen_ok, run_loadIdAt hc hl]
def id1 (b : UInt8) : List UInt8 := b :: zero8 31
theorem run_build1 (w : World) : (Instr.build 23 #[(0, .int .u8 1)]).run Try.prog w = .ok (idV (id1 1)) w := by kernel_rfl
theorem run_build2 (w : World) : (Instr.build 23 #[(0, .int .u8 2)]).run Try.prog w = .ok (idV (id1 2)) w := by kernel_rfl
theorem run_build3 (w : World) : (Instr.build 23 #[(0, .int .u8 3)]).run Try.prog w = .ok (idV (id1 3)) w := by kernel_rfl
theorem opG_build1 (ho : o.op = .build 23 #[(0, .const (.int .u8 1))]) (hw : Region.wanted o (yielded ops a.tmps) = true) (h : wpList Try.prog ops Q rest (a.put o.dst (idV (id1 1))) w) : wpList Try.prog ops Q (o :: rest) a w := by
  refine wpList_want (v := idV (id1 1)) (w' := w) hw ?_ h
  have e : a.eval (.const (.int .u8 1)) = .int .u8 1 := rfl
  unfold execOp
  simp only [ho, e, List.map_toArray, List.map_cons, List.map_nil, Sem.run_bind, Sem.run_pure, Result.andThen_ok, run_build1]
theorem opG_build2 (ho : o.op = .build 23 #[(0, .const (.int .u8 2))]) (hw : Region.wanted o (yielded ops a.tmps) = true) (h : wpList Try.prog ops Q rest (a.put o.dst (idV (id1 2))) w) : wpList Try.prog ops Q (o :: rest) a w := by
  refine wpList_want (v := idV (id1 2)) (w' := w) hw ?_ h
  have e : a.eval (.const (.int .u8 2)) = .int .u8 2 := rfl
  unfold execOp
  simp only [ho, e, List.map_toArray, List.map_cons, List.map_nil, Sem.run_bind, Sem.run_pure, Result.andThen_ok, run_build2]
theorem opG_build3 (ho : o.op = .build 23 #[(0, .const (.int .u8 3))]) (hw : Region.wanted o (yielded ops a.tmps) = true) (h : wpList Try.prog ops Q rest (a.put o.dst (idV (id1 3))) w) : wpList Try.prog ops Q (o :: rest) a w := by
  refine wpList_want (v := idV (id1 3)) (w' := w) hw ?_ h
  have e : a.eval (.const (.int .u8 3)) = .int .u8 3 := rfl
  unfold execOp
  simp only [ho, e, List.map_toArray, List.map_cons, List.map_nil, Sem.run_bind, Sem.run_pure, Result.andThen_ok, run_build3]
end
theorem union_ex : unionL [id1 1, id1 3] [id1 2, id1 3] = [id1 1, id1 2, id1 3] := by decide +kernel
theorem id1_length (b : UInt8) : (id1 b).length = 32 := rfl
theorem awake04 (w : World) : Calls Try.prog 19 #[] w fun e w' => e = .returned (.bool true) ∧ Below w.heap.size w w' := by
  have HU := hid union_ex
  go_enter Try.func19, Try.ntmps19
  have HB := hid (grow_refl w)
  go_wp2_with (first | (refine opG_build1 rfl rfl ?_) | (refine opG_build3 rfl rfl ?_) | (refine op_rowIds2 (l1 := id1 1) (l2 := id1 3) rfl rfl rfl rfl rfl rfl ?_))
  intro ad1 w1 hb hr
  replace HB := hid (Grow.trans HB.out hb)
  clear hb
  have R1 := hid hr
  clear hr
  go_wp2_with (first | (refine opG_build2 rfl rfl ?_) | (refine opG_build3 rfl rfl ?_) | (refine op_rowIds2 (l1 := id1 2) (l2 := id1 3) rfl rfl rfl rfl rfl rfl ?_))
  intro ad2 w2 hb hr
  replace HB := hid (Grow.trans HB.out hb)
  replace R1 := hid (R1.out.grow hb)
  clear hb
  have R2 := hid hr
  clear hr
  go_wp2_with fail
  refine (idUnion _ _ 2 2 2 2 [id1 1, id1 3] [id1 2, id1 3] rfl rfl _ R1.out R2.out (fun s hs => by simp at hs; rcases hs with rfl | rfl <;> rfl) (fun s hs => by simp at hs; rcases hs with rfl | rfl <;> rfl) (Nat.le_refl _) (Nat.le_refl _) (by simp)).mono ?_
  rintro e w3 ⟨v, rfl, ho, hb⟩
  rw [HU.out] at ho
  replace HB := hid (Grow.trans HB.out hb)
  clear hb
  obtain ⟨⟨A3, c3, rfl, hr⟩, _⟩ := ho.sl
  obtain ⟨ad, rfl, h0⟩ := hr.at_ 0 (by simp)
  obtain ⟨_, e1, h1⟩ := hr.at_ 1 (by simp)
  obtain rfl := Option.some.inj e1
  obtain ⟨_, e2, h2⟩ := hr.at_ 2 (by simp)
  obtain rfl := Option.some.inj e2
  have K0 := hid h0
  have K1 := hid h1
  have K2 := hid h2
  have hq1 := id_eql_self (id1 1) rfl
  have hq2 := id_eql_self (id1 2) rfl
  have hq3 := id_eql_self (id1 3) rfl
  have hg1 := id_guard .eql (id1 1) (id1 1)
  have hg2 := id_guard .eql (id1 2) (id1 2)
  have hg3 := id_guard .eql (id1 3) (id1 3)
  clear ho hr h0 h1 h2 e1 e2
  go_wp2_with (first | (refine opG_build1 rfl rfl ?_) | (refine opG_build2 rfl rfl ?_) | (refine opG_build3 rfl rfl ?_) | (refine opG_loadAt (l := id1 1) rfl rfl rfl K0.out rfl ?_) | (refine opG_loadAt (l := id1 2) rfl rfl rfl K1.out rfl ?_) | (refine opG_loadAt (l := id1 3) rfl rfl rfl K2.out rfl ?_))
  go_ret
  exact ⟨rfl, HB.out⟩
end Go.Proofs.Ytkibibgbmkejjaa
