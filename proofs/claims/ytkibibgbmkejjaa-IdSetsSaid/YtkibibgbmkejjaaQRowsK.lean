/- Rows of ids, made and read. -/
import Derived.Test.YtkibibgbmkejjaaQKit
import Derived.Laws.MakeOwn
import Derived.Laws.OwnMore
set_option linter.unusedSimpArgs false
set_option linter.unusedVariables false
namespace Go.Qk
open Go.RowKit
section
variable {P : Program}
theorem fold_set : ∀ (l : List Value) (k : Nat) (pre mid post : List Value) (off : Nat), pre.length = off + k → mid.length = l.length →
    (l.zipIdx k).foldl (fun (cs : Array Value) (p : Value × Nat) => cs.setIfInBounds (off + p.2) p.1) (pre ++ mid ++ post).toArray = (pre ++ l ++ post).toArray
  | [], k, pre, mid, post, off, h1, h2 => by
    obtain rfl : mid = [] := List.eq_nil_of_length_eq_zero h2
    simp
  | c :: l, k, pre, m :: mid, post, off, h1, h2 => by
    have e : (pre ++ (m :: mid) ++ post).toArray.setIfInBounds (off + k) c = ((pre ++ [c]) ++ mid ++ post).toArray := by
      rw [List.setIfInBounds_toArray, List.append_assoc, List.set_append_right _ _ (by omega), h1, Nat.sub_self]
      simp
    rw [List.zipIdx_cons, List.foldl_cons]
    simp only
    rw [e, fold_set l (k + 1) (pre ++ [c]) mid post off (by simp; omega) (by simpa using h2)]
    simp
theorem fill_seq (size : Nat) : ∀ (vs : List Value) (css : List (List Value)) (k : Nat) (pre post : List Value), vs.map Value.cells = css.map List.toArray → (∀ c ∈ css, c.length = size) → pre.length = k * size → post.length = vs.length * size →
    Instr.fill (fun i => some (i * size, size)) (pre ++ post).toArray ((vs.zipIdx k).map Prod.swap) = some (pre ++ css.flatten).toArray
  | [], [], k, pre, post, _, _, _, h => by
    obtain rfl : post = [] := List.eq_nil_of_length_eq_zero (by simpa using h)
    simp [Instr.fill]
  | [], _ :: _, _, _, _, h, _, _, _ => by simp at h
  | _ :: _, [], _, _, _, h, _, _, _ => by simp at h
  | v :: vs, c :: css, k, pre, post, h1, h2, h3, h4 => by
    simp only [List.map_cons, List.cons.injEq] at h1
    have hc : c.length = size := h2 c List.mem_cons_self
    rw [List.length_cons, Nat.add_mul, Nat.one_mul] at h4
    have hvs : v.cells.size = size := by rw [h1.1]; simpa using hc
    obtain ⟨mid, post', rfl, hm⟩ : ∃ mid post', post = mid ++ post' ∧ mid.length = size := ⟨post.take size, post.drop size, (List.take_append_drop _ _).symm, by rw [List.length_take]; omega⟩
    rw [List.length_append] at h4
    have hin : ¬ (v.cells.size ≠ size || decide (k * size + v.cells.size > (pre ++ (mid ++ post')).toArray.size)) = true := by
      simp [hvs]
      omega
    rw [List.zipIdx_cons, List.map_cons]
    simp only [Prod.swap, Instr.fill]
    rw [if_neg hin]
    have hf : (v.cells.zipIdx.foldl (fun cs (x : Value × Nat) => cs.setIfInBounds (k * size + x.2) x.1) (pre ++ (mid ++ post')).toArray) = (pre ++ c ++ post').toArray := by
      rw [h1.1, ← Array.foldl_toList]
      have := fold_set c 0 pre mid post' (k * size) (by omega) (by omega)
      rw [List.append_assoc] at this
      simpa using this
    have e : (fun (cs : Array Value) (x : Value × Nat) => match x with | (c, j) => cs.setIfInBounds (k * size + j) c) = fun (cs : Array Value) (x : Value × Nat) => cs.setIfInBounds (k * size + x.2) x.1 := by
      funext cs x; rfl
    show Instr.fill _ (v.cells.zipIdx.foldl (fun cs (x : Value × Nat) => match x with | (c, j) => cs.setIfInBounds (k * size + j) c) (pre ++ (mid ++ post')).toArray) _ = _
    rw [e, hf, fill_seq size vs css (k + 1) (pre ++ c) post' h1.2 (fun d hd => h2 d (List.mem_cons_of_mem _ hd)) (by rw [List.length_append, h3, hc, Nat.add_mul, Nat.one_mul]) (by omega)]
    simp
theorem run_buildSlice (w : World) (t e : TypeId) (size n bytes : Nat) (z : Value) (ht : P.underlying t = some (.slice e)) (hi : (P.info? e).map (fun i => (i.zero, i.size, i.bytes)) = some (some z, size, bytes)) (hz : z.cells.size = size) (hs : 0 < size) (hn : n * size ≤ 16777216) (h0 : 0 < n)
    (vs : List Value) (css : List (List Value)) (hv : vs.map Value.cells = css.map List.toArray) (hc : ∀ c ∈ css, c.length = size) (hl : vs.length = n) :
    (Instr.buildSlice t n ((vs.zipIdx 0).map Prod.swap).toArray).run P w = .ok (.slice (some ⟨w.heap.size, 0, none⟩) n n) (w.alloc (.cells css.flatten.toArray e)) := by
  obtain ⟨i, h1, h2, h3, h4⟩ := info_parts hi
  have hpos : 0 < n * size := Nat.mul_pos h0 hs
  have hf := fill_seq size vs css 0 [] ((Array.range (n * size)).map (fun x => z.cells[x % z.cells.size]!)).toList hv hc (by simp) (by simp [hl])
  simp only [List.nil_append] at hf
  have n1 : ¬ (16777216 < n * size) := by omega
  have n2 : ¬ (n * size = 0) := by omega
  have n3 : ¬ (n = 0 ∨ size = 0) := by omega
  simp only [Array.toArray_toList] at hf
  simp [Instr.buildSlice, run_underlying ht, sizeOf, typeInfo, zeroValue, h1, h2, h3, n1, n2, n3, hf, newRow]
end
def idCells (xs : List (List UInt8)) : List Value := xs.flatMap u8s
theorem idCells_append (xs ys : List (List UInt8)) : idCells (xs ++ ys) = idCells xs ++ idCells ys := by simp [idCells]
theorem idCells_length : ∀ (xs : List (List UInt8)), (∀ s ∈ xs, s.length = 32) → (idCells xs).length = xs.length * 32
  | [], _ => rfl
  | x :: xs, h => by
    have := idCells_length xs (fun s hs => h s (List.mem_cons_of_mem _ hs))
    rw [idCells, List.flatMap_cons, List.length_append, u8s_length, h x List.mem_cons_self]
    unfold idCells at this
    rw [this, List.length_cons]
    omega
theorem idCells_one (xs : List (List UInt8)) : ∀ u ∈ idCells xs, u.oneCell' = true := by
  intro u hu
  obtain ⟨x, _, hx⟩ := List.mem_flatMap.1 hu
  exact u8s_one x u hx
theorem idCells_get : ∀ (xs : List (List UInt8)), (∀ s ∈ xs, s.length = 32) → ∀ (i : Nat), i < xs.length → ∀ j v, (u8s (xs.getD i []))[j]? = some v → (idCells xs)[i * 32 + j]? = some v
  | x :: xs, h, 0, _, j, v, hv => by
    simp only [List.getD_cons_zero] at hv
    have hj := (List.getElem?_eq_some_iff.1 hv).1
    rw [idCells, List.flatMap_cons, List.getElem?_append_left (by omega), Nat.zero_mul, Nat.zero_add]
    exact hv
  | x :: xs, h, i + 1, hi, j, v, hv => by
    have := idCells_get xs (fun s hs => h s (List.mem_cons_of_mem _ hs)) i (by simpa using hi) j v (by simpa using hv)
    have hx := h x List.mem_cons_self
    rw [idCells, List.flatMap_cons, List.getElem?_append_right (by rw [u8s_length]; omega), u8s_length, hx]
    rw [show (i + 1) * 32 + j - 32 = i * 32 + j from by omega]
    exact this
/-- A row of ids of the call's own. -/
def OwnIds (e : TypeId) (B : Nat) (w : World) (v : Value) (xs : List (List UInt8)) : Prop := w.ownsRow B e 32 v xs.length (idCells xs) ∧ ∀ s ∈ xs, s.length = 32
theorem OwnIds.grow {e : TypeId} {B : Nat} {w w1 : World} {v : Value} {xs : List (List UInt8)} (h : OwnIds e B w v xs) (hg : Grow w w1) : OwnIds e B w1 v xs := ⟨own_grow h.1 hg, h.2⟩
theorem OwnIds.base {e : TypeId} {B C : Nat} {w : World} {v : Value} {xs : List (List UInt8)} (h : OwnIds e B w v xs) (hc : C ≤ B) : OwnIds e C w v xs := by
  refine ⟨⟨h.1.1, ?_⟩, h.2⟩
  rcases h.1.2 with h1 | ⟨g, cap, cur, h2, h3, h4⟩
  · exact .inl h1
  · exact .inr ⟨g, cap, cur, h2, Nat.le_trans hc h3, h4⟩
/-- A slice value that reads as ids. -/
def IdSl (w : World) (v : Value) (xs : List (List UInt8)) : Prop := (∃ A c, v = .slice A xs.length c ∧ IdRow w A xs) ∧ ∀ s ∈ xs, s.length = 32
theorem IdSl.grow {w w1 : World} {v : Value} {xs : List (List UInt8)} (h : IdSl w v xs) (hg : Grow w w1) : IdSl w1 v xs := by
  obtain ⟨⟨A, c, e, h1⟩, h2⟩ := h
  exact ⟨⟨A, c, e, h1.grow hg⟩, h2⟩
theorem OwnIds.sl {e : TypeId} {B : Nat} {w : World} {v : Value} {xs : List (List UInt8)} (h : OwnIds e B w v xs) : IdSl w v xs := by
  refine ⟨?_, h.2⟩
  rcases h.1.2 with ⟨rfl, h0⟩ | ⟨g, cap, cur, rfl, hb, hg, hc, hm, _, _⟩
  · obtain rfl : xs = [] := List.eq_nil_of_length_eq_zero h0
    exact ⟨none, 0, rfl, by simp, fun h => absurd rfl h⟩
  · have hmx : maxLen = 9223372036854775807 := rfl
    refine ⟨_, _, rfl, by omega, fun _ => ⟨_, rfl, fun i hi j v hv => ?_⟩⟩
    have h1 := World.ownsRow.cells h.1 (g := g) rfl (i * 32 + j) v (idCells_get xs h.2 i hi j v hv)
    have e2 : (⟨g, i * 32, none⟩ : Addr).add j = ⟨g, i * 32 + j, none⟩ := by unfold Addr.add; split <;> simp_all
    rw [addr_add] at h1
    rw [addr_add, e2]
    exact h1
end Go.Qk
namespace Go.Proofs.Ytkibibgbmkejjaa
open Go.RowKit
open Go.Qk hiding rotr b4
set_option maxHeartbeats 1000000
set_option maxRecDepth 100000
theorem infoId : (Try.prog.info? 23).map (fun i => (i.zero, i.size, i.bytes)) = some (some (idV (zero8 32)), 32, 32) := by kernel_rfl
theorem idV_cells (l : List UInt8) : (idV l).cells = (u8s l).toArray := rfl
section
variable {ops : Array Oper} {Q : Exit → Act → World → Prop} {rest : List Oper} {o o2 : Oper} {a : Act} {w : World}
theorem run_buildIds (w : World) (xs : List (List UInt8)) (n : Nat) (hn : xs.length = n) (h0 : 0 < n) (hmax : n ≤ 1000) (h : ∀ s ∈ xs, s.length = 32) :
    (Instr.buildSlice 35 n (((xs.map idV).zipIdx 0).map Prod.swap).toArray).run Try.prog w = .ok (.slice (some ⟨w.heap.size, 0, none⟩) n n) (w.alloc (.cells (idCells xs).toArray 23)) := by
  have := run_buildSlice (P := Try.prog) w 35 23 32 n 32 (idV (zero8 32)) Try.underlying35 infoId (by simp [idV_cells, u8s_length, zero8]) (by omega) (by omega) h0 (xs.map idV) (xs.map u8s) (by simp [idV_cells]) (fun c hc => by
    obtain ⟨s, hs, rfl⟩ := List.mem_map.1 hc
    rw [u8s_length, h s hs]) (by simpa using hn)
  rw [this]
  rfl
theorem wpList_want {P : Program} {v : Value} {w' : World} (hw : Region.wanted o (yielded ops a.tmps) = true) (hrun : (execOp a.eval o).run P w = .ok (.value v) w') (h : wpList P ops Q rest (a.put o.dst v) w') : wpList P ops Q (o :: rest) a w :=
  wpList_step fun K hK => by
    rw [if_pos hw]
    unfold Oper.wp
    rw [hrun]
    exact hK _ _ h
/-- The same for an operation that is guarded. -/
theorem opG_loadId {x : Operand} {g : Nat} {l : List UInt8} {t : TypeId} {fr : Nat × Nat} (ho : o.op = .load 23 x) (hw : Region.wanted o (yielded ops a.tmps) = true) (hx : a.eval x = .pointer (some ⟨g, 0, none⟩)) (hg : w.heap[g]? = some (.cells (u8s l).toArray t fr)) (hl : l.length = 32)
    (h : wpList Try.prog ops Q rest (a.put o.dst (idV l)) w) : wpList Try.prog ops Q (o :: rest) a w := by
  refine wpList_want (v := idV l) (w' := w) hw ?_ h
  unfold execOp
  simp only [ho, hx, Sem.run_bind, Sem.run_pure, Result.andThen_ok, run_loadId hg hl]
theorem opG_buildId (ho : o.op = .build 23 #[]) (hw : Region.wanted o (yielded ops a.tmps) = true) (h : wpList Try.prog ops Q rest (a.put o.dst (idV (zero8 32))) w) : wpList Try.prog ops Q (o :: rest) a w := by
  refine wpList_want (v := idV (zero8 32)) (w' := w) hw ?_ h
  unfold execOp
  simp only [ho, Array.map_empty, List.map_toArray, List.map_nil, Sem.run_bind, Sem.run_pure, Result.andThen_ok, run_buildId]
/-- append(out, ids...) of ids that are given one by one. -/
theorem op_appIds (xs : List (List UInt8)) (n : Nat) {d : Tmp} {x : Operand} {parts : Array (Nat × Operand)} {v : Value} {ys : List (List UInt8)} {B : Nat} {w0 : World} (hgd : o.guard = none) (ho : o.op = .buildSlice 35 n parts) (hd : o.dst = some d)
    (hgd2 : o2.guard = none) (ho2 : o2.op = .call { callee := .builtin .append, args := #[x, .tmp d], argTypes := #[35, 35] }) (hp : parts.map (fun (i, y) => (i, a.eval y)) = (((xs.map idV).zipIdx 0).map Prod.swap).toArray)
    (hx : ∀ u, (a.put o.dst u).eval x = v) (he : ∀ u, (a.put o.dst u).eval (.tmp d) = u) (hn : xs.length = n) (h0 : 0 < n ∧ n ≤ 1000) (hxs : ∀ s ∈ xs, s.length = 32) (hown : OwnIds 23 B w v ys) (hb : Below B w0 w) (hB : B ≤ w.heap.size) (hlen : ys.length + n ≤ 1000000000)
    (h : ∀ u v' w', OwnIds 23 B w' v' (ys ++ xs) → Below B w0 w' → B ≤ w'.heap.size → wpList Try.prog ops Q rest ((a.put o.dst u).put o2.dst v') w') : wpList Try.prog ops Q (o :: o2 :: rest) a w := by
  have hr := run_buildIds w xs n hn h0.1 h0.2 hxs
  refine wpList_val (v := .slice (some ⟨w.heap.size, 0, none⟩) n n) (w' := w.alloc (.cells (idCells xs).toArray 23)) hgd ?_ ?_
  · unfold execOp
    simp only [ho, hp, Sem.run_bind, Sem.run_pure, Result.andThen_ok, hr]
  · refine app_cells (P := Try.prog) (w0 := w0) (B := B) x (.tmp d) 35 23 (idV (zero8 32)) 32 32 v ys.length (idCells ys) (idCells xs) ⟨w.heap.size, 0, none⟩ n n hgd2 ho2 Try.underlying35 infoId (by simp [idV_cells, u8s_length, zero8]) (by omega) (hx _) (he _) (by rw [idCells_length xs hxs, hn]) (fun j u hj => cells_new w _ _ j u hj) (idCells_one xs) (World.ownsRow.alloc hown.1 _) (hb.alloc hB _) (by simp; omega) (by omega) (by omega) ?_
    intro v' w' h1 h2 h3
    refine h _ v' w' ⟨?_, fun s hs => ?_⟩ h2 h3
    · rw [List.length_append, idCells_append, hn]
      exact h1
    · rcases List.mem_append.1 hs with hs | hs
      · exact hown.2 s hs
      · exact hxs s hs
theorem op_appIds1 {l1 : List UInt8} {d : Tmp} {x y1 : Operand} {v : Value} {ys : List (List UInt8)} {B : Nat} {w0 : World} (hgd : o.guard = none) (ho : o.op = .buildSlice 35 1 #[(0, y1)]) (hd : o.dst = some d)
    (hgd2 : o2.guard = none) (ho2 : o2.op = .call { callee := .builtin .append, args := #[x, .tmp d], argTypes := #[35, 35] }) (h1 : a.eval y1 = idV l1)
    (hx : ∀ u, (a.put o.dst u).eval x = v) (he : ∀ u, (a.put o.dst u).eval (.tmp d) = u) (hl1 : l1.length = 32) (hown : OwnIds 23 B w v ys) (hb : Below B w0 w) (hB : B ≤ w.heap.size) (hlen : ys.length + 1 ≤ 1000000000)
    (h : ∀ u v' w', OwnIds 23 B w' v' (ys ++ [l1]) → Below B w0 w' → B ≤ w'.heap.size → wpList Try.prog ops Q rest ((a.put o.dst u).put o2.dst v') w') : wpList Try.prog ops Q (o :: o2 :: rest) a w :=
  op_appIds (w0 := w0) [l1] 1 hgd ho hd hgd2 ho2 (by simp [h1]) hx he rfl (by omega) (fun s hs => by simp at hs; rw [hs, hl1]) hown hb hB hlen h
theorem op_appIds2 {l1 l2 : List UInt8} {d : Tmp} {x y1 y2 : Operand} {v : Value} {ys : List (List UInt8)} {B : Nat} {w0 : World} (hgd : o.guard = none) (ho : o.op = .buildSlice 35 2 #[(0, y1), (1, y2)]) (hd : o.dst = some d)
    (hgd2 : o2.guard = none) (ho2 : o2.op = .call { callee := .builtin .append, args := #[x, .tmp d], argTypes := #[35, 35] }) (h1 : a.eval y1 = idV l1) (h2 : a.eval y2 = idV l2)
    (hx : ∀ u, (a.put o.dst u).eval x = v) (he : ∀ u, (a.put o.dst u).eval (.tmp d) = u) (hl1 : l1.length = 32) (hl2 : l2.length = 32) (hown : OwnIds 23 B w v ys) (hb : Below B w0 w) (hB : B ≤ w.heap.size) (hlen : ys.length + 2 ≤ 1000000000)
    (h : ∀ u v' w', OwnIds 23 B w' v' (ys ++ [l1, l2]) → Below B w0 w' → B ≤ w'.heap.size → wpList Try.prog ops Q rest ((a.put o.dst u).put o2.dst v') w') : wpList Try.prog ops Q (o :: o2 :: rest) a w :=
  op_appIds (w0 := w0) [l1, l2] 2 hgd ho hd hgd2 ho2 (by simp [h1, h2]) hx he rfl (by omega) (fun s hs => by simp at hs; rcases hs with hs | hs <;> rw [hs] <;> assumption) hown hb hB hlen h
/-- make([]api.Id, 0, c). -/
theorem op_makeIds {x : Operand} {c : Nat} (hgd : o.guard = none) (ho : o.op = .makeSlice 35 (.const (.int .i64 0)) x) (hx : a.eval x = .int .i64 (c : Int)) (hc : c ≤ 1000000000)
    (h : ∀ v w', OwnIds 23 w.heap.size w' v [] → Grow w w' → wpList Try.prog ops Q rest (a.put o.dst v) w') : wpList Try.prog ops Q (o :: rest) a w := by
  obtain ⟨i, h1, h2, h3, h4⟩ := info_parts infoId
  obtain ⟨w', hr, hown, hg⟩ := run_make_own (P := Try.prog) w w.heap.size 35 23 i _ 32 Try.underlying35 h1 h2 h3 .i64 .i64 c (by rw [h4]; omega) (by simp only [maxLen]; omega) (Nat.le_refl _)
  refine wpList_val (v := .slice (some ⟨w.heap.size, 0, none⟩) 0 c) (w' := w') hgd ?_ (h _ _ ⟨hown, fun _ h => by cases h⟩ ⟨hg.os, hg.tape, hg.output, hg.size, fun i hi => hg.block i hi (by simp)⟩)
  have e : a.eval (.const (.int .i64 0)) = .int .i64 0 := rfl
  unfold execOp
  simp only [ho, hx, e, Sem.run_bind, Sem.run_pure, Result.andThen_ok, hr]
/-- make([]byte, 0, c). -/
theorem op_makeBytes {x : Operand} {c : Nat} (hgd : o.guard = none) (ho : o.op = .makeSlice 112 (.const (.int .i64 0)) x) (hx : a.eval x = .int .i64 (c : Int)) (hc : c ≤ 100000000000)
    (h : ∀ v w', Buf 5 w.heap.size w' v [] → Grow w w' → wpList Try.prog ops Q rest (a.put o.dst v) w') : wpList Try.prog ops Q (o :: rest) a w := by
  obtain ⟨i, h1, h2, h3, h4⟩ := info_parts infoU8
  obtain ⟨w', hr, hown, hg⟩ := run_make_own (P := Try.prog) w w.heap.size 112 5 i _ 1 Try.underlying112 h1 h2 h3 .i64 .i64 c (by rw [h4]; omega) (by simp only [maxLen]; omega) (Nat.le_refl _)
  refine wpList_val (v := .slice (some ⟨w.heap.size, 0, none⟩) 0 c) (w' := w') hgd ?_ (h _ _ hown ⟨hg.os, hg.tape, hg.output, hg.size, fun i hi => hg.block i hi (by simp)⟩)
  have e : a.eval (.const (.int .i64 0)) = .int .i64 0 := rfl
  unfold execOp
  simp only [ho, hx, e, Sem.run_bind, Sem.run_pure, Result.andThen_ok, hr]
/-- A variable of one cell is made. -/
theorem op_box1 {T : TypeId} {x : Operand} {v : Value} (hgd : o.guard = none) (ho : o.op = .box T x) (hx : a.eval x = v) (hv : v.cells = #[v])
    (h : ∀ g W, w.heap.size ≤ g → g < W.heap.size → Grow w W → W.heap[g]? = some (.cells #[v] T (0, 0)) → wpList Try.prog ops Q rest (a.put o.dst (.pointer (some ⟨g, 0, none⟩))) W) : wpList Try.prog ops Q (o :: rest) a w := by
  refine wpList_val (v := .pointer (some ⟨w.heap.size, 0, none⟩)) (w' := w.alloc (.cells #[v] T)) hgd ?_ (h _ _ (Nat.le_refl _) (by simp) (grow_alloc _ _) (heap_alloc_new _ _))
  have hr : (Instr.box T v).run Try.prog w = .ok (.pointer (some ⟨w.heap.size, 0, none⟩)) (w.alloc (.cells v.cells T)) := rfl
  rw [hv] at hr
  unfold execOp
  simp only [ho, hx, Sem.run_bind, Sem.run_pure, Result.andThen_ok, hr]
theorem cell_box {w w' : World} {g : Nat} {v : Value} {t : TypeId} (h : w.heap[g]? = some (.cells #[v] t (0, 0))) (hg : Grow w w') : w'.cell? ⟨g, 0, none⟩ = some v := by
  rw [cell_of_row w' g 0 _ t (0, 0) (grow_block h hg)]
  rfl
/-- A function value is called. -/
theorem op_callFn {x y1 y2 : Operand} {ts : Array TypeId} {f : FuncId} {cap : Array Value} {v u1 u2 : Value} (hgd : o.guard = none) (ho : o.op = .call { callee := .value x, args := #[y1, y2], argTypes := ts }) (hx : a.eval x = .func (.func f) #[] cap)
    (h1 : a.eval y1 = u1) (h2 : a.eval y2 = u2) (hent : ∀ args w, (callFunc f args).run Try.prog w = .ok (.enter f args) w) (hc : Calls Try.prog f (#[u1, u2] ++ cap) w fun e w' => e = .returned v ∧ Below w.heap.size w w')
    (h : ∀ w', Grow w w' → wpList Try.prog ops Q rest (a.put o.dst v) w') : wpList Try.prog ops Q (o :: rest) a w :=
  wpList_plain hgd fun K hK => by
    have hr : (execOp a.eval o).run Try.prog w = .ok (.enter f (#[u1, u2] ++ cap)) w := by
      unfold execOp
      simp only [ho, resolve, hx, h1, h2, List.map_toArray, List.map_cons, List.map_nil, Deferred.ofValue, invoke, Sem.run_bind, Sem.run_pure, Result.andThen_ok, Array.empty_append, hent]
    unfold Oper.wp
    rw [hr]
    exact Calls.mono hc fun e w'' ⟨he, hb⟩ => by rw [he]; exact hK _ _ (h _ hb)
/-- &l[i] of a row of ids. -/
theorem run_indexAddrId {ad : Addr} {n c i : Nat} (hi : i < n) (w : World) : (Instr.indexAt 35 (.slice (some ad) n c) (.int .i64 (i : Int))).run Try.prog w = .ok (.pointer (some (ad.add (i * 32)))) w := by
  have h1 : (0 : Int) ≤ (i : Int) := by omega
  have h2 : (i : Int) < (n : Int) := by omega
  go_simp
end
end Go.Proofs.Ytkibibgbmkejjaa
