/- Words for functions that make, keep and return ids. -/
import Derived.Test.YtkibibgbmkejjaaQIdEq
import Derived.Test.YtkibibgbmkejjaaQId6
import Derived.Test.YtkibibgbmkejjaaQRowId
set_option linter.unusedSimpArgs false
set_option linter.unusedVariables false
namespace Go.Proofs.Ytkibibgbmkejjaa
open Go.RowKit
open Go.Qk hiding rotr b4
set_option maxHeartbeats 1000000
set_option maxRecDepth 100000
section
variable {ops : Array Oper} {Q : Exit → Act → World → Prop} {rest : List Oper} {o o2 : Oper} {a : Act} {w : World}
theorem run_allocId (w : World) : (Instr.alloc 23 true (.tuple #[])).run Try.prog w = .ok (.pointer (some ⟨w.heap.size, 0, none⟩)) (w.alloc (.cells (u8s (zero8 32)).toArray 23)) := by kernel_rfl
theorem op_alloc (hgd : o.guard = none) (ho : o.op = .alloc 23)
    (h : ∀ g W, w.heap.size ≤ g → g < W.heap.size → Grow w W → W.heap[g]? = some (.cells (u8s (zero8 32)).toArray 23 (0, 0)) → wpList Try.prog ops Q rest (a.put o.dst (.pointer (some ⟨g, 0, none⟩))) W) :
    wpList Try.prog ops Q (o :: rest) a w := by
  refine wpList_val (v := .pointer (some ⟨w.heap.size, 0, none⟩)) (w' := w.alloc (.cells (u8s (zero8 32)).toArray 23)) hgd ?_ (h _ _ (Nat.le_refl _) (by simp) (grow_alloc _ _) (heap_alloc_new _ _))
  unfold execOp
  simp only [ho, Sem.run_bind, Sem.run_pure, Result.andThen_ok, run_allocId]
theorem run_boxId (l : List UInt8) (w : World) : (Instr.box 23 (idV l)).run Try.prog w = .ok (.pointer (some ⟨w.heap.size, 0, none⟩)) (w.alloc (.cells (u8s l).toArray 23)) := by rfl
theorem op_box {x : Operand} {l : List UInt8} (hgd : o.guard = none) (ho : o.op = .box 23 x) (hx : a.eval x = idV l)
    (h : ∀ g W, w.heap.size ≤ g → g < W.heap.size → Grow w W → W.heap[g]? = some (.cells (u8s l).toArray 23 (0, 0)) → wpList Try.prog ops Q rest (a.put o.dst (.pointer (some ⟨g, 0, none⟩))) W) :
    wpList Try.prog ops Q (o :: rest) a w := by
  refine wpList_val (v := .pointer (some ⟨w.heap.size, 0, none⟩)) (w' := w.alloc (.cells (u8s l).toArray 23)) hgd ?_ (h _ _ (Nat.le_refl _) (by simp) (grow_alloc _ _) (heap_alloc_new _ _))
  unfold execOp
  simp only [ho, hx, Sem.run_bind, Sem.run_pure, Result.andThen_ok, run_boxId]
theorem szIdL {l : List UInt8} (hl : l.length = 32) : (Try.prog.info? 23).map (·.size) = some (u8s l).length := by rw [szId, u8s_length, hl]
/-- An id is stored in a cell that is known whole. -/
theorem op_storeId {x y : Operand} {g : Nat} {l m : List UInt8} {t : TypeId} (hgd : o.guard = none) (hdst : o.dst = none) (ho : o.op = .store 23 x y) (hx : a.eval x = .pointer (some ⟨g, 0, none⟩)) (hy : a.eval y = idV l)
    (hg : w.heap[g]? = some (.cells (u8s m).toArray t (0, 0))) (hm : m.length = 32) (hl : l.length = 32)
    (h : ∀ W, W.heap[g]? = some (.cells (u8s l).toArray t (0, 0)) → w.grownBy W (some g) → (∀ B w0, Below B w0 w → B ≤ g → Below B w0 W) → wpList Try.prog ops Q rest a W) : wpList Try.prog ops Q (o :: rest) a w :=
  store_block 23 x y g 0 (u8s l) (u8s m) (u8s l) t hgd hdst ho hx hy hg (szIdL hl) (by rw [u8s_length, u8s_length]; omega) (u8s_one _) (by simp [u8s_length, hl, hm]) h
/-- An id's cell is made, and the id is stored at once. -/
theorem op_allocstore {d : Tmp} {y : Operand} {l : List UInt8} (hgd : o.guard = none) (ho : o.op = .alloc 23) (hd : o.dst = some d) (hgd2 : o2.guard = none) (hdst2 : o2.dst = none) (ho2 : o2.op = .store 23 (.tmp d) y)
    (hx : ∀ g, (a.put o.dst (.pointer (some ⟨g, 0, none⟩))).eval (.tmp d) = .pointer (some ⟨g, 0, none⟩)) (hl : (∀ g, (a.put o.dst (.pointer (some ⟨g, 0, none⟩))).eval y = idV l) ∧ l.length = 32)
    (h : ∀ g W, w.heap.size ≤ g → g < W.heap.size → Grow w W → W.heap[g]? = some (.cells (u8s l).toArray 23 (0, 0)) → wpList Try.prog ops Q rest (a.put o.dst (.pointer (some ⟨g, 0, none⟩))) W) :
    wpList Try.prog ops Q (o :: o2 :: rest) a w := by
  refine op_alloc hgd ho fun g W h1 h2 h3 h4 => ?_
  refine op_storeId (l := l) hgd2 hdst2 ho2 (hx g) (hl.1 g) h4 (by rfl) hl.2 fun W' h5 h6 h7 => ?_
  exact h g W' h1 (Nat.lt_of_lt_of_le h2 h6.size) (h7 _ _ h3 h1) h5
/-- An id is loaded out of a cell that is known whole. -/
theorem op_loadId {x : Operand} {g : Nat} {l : List UInt8} {t : TypeId} {fr : Nat × Nat} (hgd : o.guard = none) (ho : o.op = .load 23 x) (hx : a.eval x = .pointer (some ⟨g, 0, none⟩)) (hg : w.heap[g]? = some (.cells (u8s l).toArray t fr)) (hl : l.length = 32)
    (h : wpList Try.prog ops Q rest (a.put o.dst (idV l)) w) : wpList Try.prog ops Q (o :: rest) a w :=
  wpList_load_agg hgd 23 x ho ⟨g, 0, none⟩ hx (u8s l) _ (cells_block (tl := []) (by rw [List.append_nil]; exact hg)) Try.underlying23 rfl (szIdL hl) h
/-- An id is loaded out of a row. -/
theorem op_loadAt {x : Operand} {ad : Addr} {l : List UInt8} (hgd : o.guard = none) (ho : o.op = .load 23 x) (hx : a.eval x = .pointer (some ad)) (hc : ∀ j v, (u8s l)[j]? = some v → w.cell? (ad.add j) = some v) (hl : l.length = 32)
    (h : wpList Try.prog ops Q rest (a.put o.dst (idV l)) w) : wpList Try.prog ops Q (o :: rest) a w :=
  wpList_load_agg hgd 23 x ho ad hx (u8s l) _ hc Try.underlying23 rfl (szIdL hl) h
theorem run_loadId {g : Nat} {l : List UInt8} {t : TypeId} {fr : Nat × Nat} (hg : w.heap[g]? = some (.cells (u8s l).toArray t fr)) (hl : l.length = 32) : (Instr.loadAt 23 (.pointer (some ⟨g, 0, none⟩))).run Try.prog w = .ok (idV l) w :=
  run_loadAt_agg w ⟨g, 0, none⟩ 23 (u8s l) _ (cells_block (tl := []) (by rw [List.append_nil]; exact hg)) Try.underlying23 rfl (szIdL hl)
theorem run_loadIdAt {ad : Addr} {l : List UInt8} (hc : ∀ j v, (u8s l)[j]? = some v → w.cell? (ad.add j) = some v) (hl : l.length = 32) : (Instr.loadAt 23 (.pointer (some ad))).run Try.prog w = .ok (idV l) w :=
  run_loadAt_agg w ad 23 (u8s l) _ hc Try.underlying23 rfl (szIdL hl)
theorem ret_id {fn : Func} {p : Tmp} {tmps : Array Value} {g : Nat} {l : List UInt8} {t : TypeId} {fr : Nat × Nat} (h : fn.results = #[.cell p 23]) (hp : tmps.getD p undef = .pointer (some ⟨g, 0, none⟩)) (hg : w.heap[g]? = some (.cells (u8s l).toArray t fr)) (hl : l.length = 32) :
    (results fn tmps).run Try.prog w = .ok (idV l) w :=
  results_cell_row h _ _ g t _ fr _ hp hg Try.underlying23 rfl (by rw [szId]; simp [u8s_length, hl])
theorem ret_idt {fn : Func} {p u : Tmp} {tmps : Array Value} {g : Nat} {l : List UInt8} {t : TypeId} {fr : Nat × Nat} (h : fn.results = #[.cell p 23, .tmp u]) (hp : tmps.getD p undef = .pointer (some ⟨g, 0, none⟩)) (hg : w.heap[g]? = some (.cells (u8s l).toArray t fr)) (hl : l.length = 32) :
    (results fn tmps).run Try.prog w = .ok (.tuple #[idV l, tmps.getD u undef]) w :=
  results_row_tmp h _ _ g _ _ fr _ hp hg Try.underlying23 rfl (by rw [szId]; simp [u8s_length, hl])
theorem run_buildId (w : World) : (Instr.build 23 #[]).run Try.prog w = .ok (idV (zero8 32)) w := by kernel_rfl
theorem op_buildId (hgd : o.guard = none) (ho : o.op = .build 23 #[]) (h : wpList Try.prog ops Q rest (a.put o.dst (idV (zero8 32))) w) : wpList Try.prog ops Q (o :: rest) a w :=
  wpList_val hgd (by unfold execOp; simp only [ho, Array.map_empty, List.map_toArray, List.map_nil, Sem.run_bind, Sem.run_pure, Result.andThen_ok, run_buildId]) h
theorem zero8_length (n : Nat) : (zero8 n).length = n := by simp [zero8]
/-- string(a[:]) of an id that lies in a cell. -/
theorem run_strId {g : Nat} {l : List UInt8} {t : TypeId} (hg : w.heap[g]? = some (.cells (u8s l).toArray t (0, 0))) (hl : l.length = 32) :
    (convert 112 9 (.slice (some ⟨g, 0, none⟩) 32 32)).run Try.prog w = .ok (.string (bs l)) w := by
  refine run_str w 112 5 9 Try.underlying112 Try.underlying5 Try.underlying9 g 0 32 l (fun i hi => ?_) 32 hl
  rw [Nat.zero_add]
  exact cell_u8 hg (grow_refl w) i hi
end
section
variable {ops : Array Oper} {W : World} {Qe : (Tmp → World → Prop) → Act → Prop}
theorem head_loadAt {o : Oper} {r : List (Oper × (Value → World → Prop))} {E : Tmp → World → Prop} {a : Act} {x : Operand} {ad : Addr} {l : List UInt8} (hwant : Region.wanted o (yielded ops a.tmps) = true) (hE : ∀ t, o.dst = some t → ∀ w, E t w)
    (ho : o.op = .load 23 x) (hx : a.eval x = .pointer (some ad)) (hc : ∀ j v, (u8s l)[j]? = some v → W.cell? (ad.add j) = some v) (hl : l.length = 32)
    (h : Head Try.prog ops W Qe r E (a.put o.dst (idV l))) : Head Try.prog ops W Qe ((o, fun x _ => x = idV l) :: r) E a := by
  refine head_val hwant hE (fun w hw _ => ?_) h
  unfold execOp
  simp only [ho, hx, Sem.run_bind, Sem.run_pure, Result.andThen_ok, run_loadIdAt (w := w) (fun j v hv => grow_cell (hc j v hv) hw) hl]
theorem head_loadId {o : Oper} {r : List (Oper × (Value → World → Prop))} {E : Tmp → World → Prop} {a : Act} {x : Operand} {g : Nat} {l : List UInt8} {t : TypeId} {fr : Nat × Nat} (hwant : Region.wanted o (yielded ops a.tmps) = true) (hE : ∀ t, o.dst = some t → ∀ w, E t w)
    (ho : o.op = .load 23 x) (hx : a.eval x = .pointer (some ⟨g, 0, none⟩)) (hg : W.heap[g]? = some (.cells (u8s l).toArray t fr)) (hl : l.length = 32)
    (h : Head Try.prog ops W Qe r E (a.put o.dst (idV l))) : Head Try.prog ops W Qe ((o, fun x _ => x = idV l) :: r) E a :=
  head_loadAt hwant hE ho hx (cells_block (tl := []) (by rw [List.append_nil]; exact hg)) hl h
end
theorem strRow_cells {w : World} {ad : Addr} {xs : List ByteArray} (hc : ∀ j u, (xs.map Value.string)[j]? = some u → w.cell? (ad.add j) = some u) (hl : xs.length ≤ 9223372036854775807) : StrRow w (some ad) xs :=
  ⟨hl, fun _ => ⟨ad, rfl, fun i hi => hc i _ (by simp [hi])⟩⟩
theorem strRow_alloc (w : World) (xs : List ByteArray) (t : TypeId) (hl : xs.length ≤ 9223372036854775807) : StrRow (w.alloc (.cells (xs.map Value.string).toArray t)) (some ⟨w.heap.size, 0, none⟩) xs :=
  strRow_cells (fun j u h => cells_new w _ t j u h) hl
end Go.Proofs.Ytkibibgbmkejjaa
