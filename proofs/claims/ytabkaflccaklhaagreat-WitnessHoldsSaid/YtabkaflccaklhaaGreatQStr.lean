/- Blocks that are known whole, of any type: made, read, written; rows of any elements. -/
import Derived.Test.YtabkaflccaklhaaGreatQBase1
import Derived.Laws.MakeOwn
import Derived.Laws.OwnMore
set_option linter.unusedSimpArgs false
set_option linter.unusedVariables false
namespace Go.Qk
open Go.RowKit
set_option maxHeartbeats 1000000
def aggD (d : TypeDesc) : Bool := match d with | .struct _ | .array _ _ => true | _ => false
section
variable {P : Program} {ops : Array Oper} {Q : Exit → Act → World → Prop} {rest : List Oper} {o o2 : Oper} {a : Act} {w : World}
theorem wpList_wantP {v : Value} {w' : World} (hw : Region.wanted o (yielded ops a.tmps) = true) (hrun : (execOp a.eval o).run P w = .ok (.value v) w') (h : wpList P ops Q rest (a.put o.dst v) w') : wpList P ops Q (o :: rest) a w :=
  wpList_step fun K hK => by
    rw [if_pos hw]
    unfold Oper.wp
    rw [hrun]
    exact hK _ _ h
/-- A variable of whatever cells is made. -/
theorem op_boxC {T : TypeId} {x : Operand} {v : Value} {cs : Array Value} (hgd : o.guard = none) (ho : o.op = .box T x) (hx : a.eval x = v) (hv : v.cells = cs)
    (h : ∀ g W, w.heap.size ≤ g → g < W.heap.size → Grow w W → W.heap[g]? = some (.cells cs T (0, 0)) → wpList P ops Q rest (a.put o.dst (.pointer (some ⟨g, 0, none⟩))) W) : wpList P ops Q (o :: rest) a w := by
  refine wpList_val (v := .pointer (some ⟨w.heap.size, 0, none⟩)) (w' := w.alloc (.cells cs T)) hgd ?_ (h _ _ (Nat.le_refl _) (by simp) (grow_alloc _ _) (heap_alloc_new _ _))
  have hr : (Instr.box T v).run P w = .ok (.pointer (some ⟨w.heap.size, 0, none⟩)) (w.alloc (.cells v.cells T)) := rfl
  rw [hv] at hr
  unfold execOp
  simp only [ho, hx, Sem.run_bind, Sem.run_pure, Result.andThen_ok, hr]
/-- A variable with its type's zero is made. -/
theorem op_allocC {T : TypeId} {z : Value} {cs : Array Value} (hgd : o.guard = none) (ho : o.op = .alloc T) (hr : ∀ w, (Instr.alloc T true (.tuple #[])).run P w = .ok (.pointer (some ⟨w.heap.size, 0, none⟩)) (w.alloc (.cells cs T)))
    (h : ∀ g W, w.heap.size ≤ g → g < W.heap.size → Grow w W → W.heap[g]? = some (.cells cs T (0, 0)) → wpList P ops Q rest (a.put o.dst (.pointer (some ⟨g, 0, none⟩))) W) : wpList P ops Q (o :: rest) a w := by
  refine wpList_val (v := .pointer (some ⟨w.heap.size, 0, none⟩)) (w' := w.alloc (.cells cs T)) hgd ?_ (h _ _ (Nat.le_refl _) (by simp) (grow_alloc _ _) (heap_alloc_new _ _))
  unfold execOp
  simp only [ho, Sem.run_bind, Sem.run_pure, Result.andThen_ok, hr]
theorem run_load1 {ad : Addr} {v : Value} {T : TypeId} {d : TypeDesc} (hc : w.cell? ad = some v) (hu : P.underlying T = some d) (hd : aggD d = false) : (Instr.loadAt T (.pointer (some ad))).run P w = .ok v w := by
  have hagg : (isAgg T).run P w = .ok false w := by
    unfold isAgg
    rw [Sem.run_bind, run_underlying hu w]
    cases d <;> simp_all [aggD]
  simp [Instr.loadAt, Instr.sureAddr, loadVar, Sem.run_bind, hagg, hc]
theorem blk_cell {g i : Nat} {cs : Array Value} {t : TypeId} {fr : Nat × Nat} {v : Value} (hg : w.heap[g]? = some (.cells cs t fr)) (hv : cs[i]? = some v) : w.cell? ⟨g, i, none⟩ = some v := by
  rw [cell_of_row w g i cs t fr hg, hv]
/-- A cell of a block that is known whole is read. -/
theorem opG_load1 {x : Operand} {g i : Nat} {cs : Array Value} {t T : TypeId} {fr : Nat × Nat} {v : Value} {d : TypeDesc} (ho : o.op = .load T x) (hw : Region.wanted o (yielded ops a.tmps) = true) (hx : a.eval x = .pointer (some ⟨g, i, none⟩))
    (hg : w.heap[g]? = some (.cells cs t fr)) (hv : cs[i]? = some v) (hu : P.underlying T = some d) (hd : aggD d = false) (h : wpList P ops Q rest (a.put o.dst v) w) : wpList P ops Q (o :: rest) a w := by
  refine wpList_wantP (v := v) (w' := w) hw ?_ h
  unfold execOp
  simp only [ho, hx, Sem.run_bind, Sem.run_pure, Result.andThen_ok, run_load1 (P := P) (blk_cell hg hv) hu hd]
/-- A cell is read. -/
theorem opG_loadCell {x : Operand} {ad : Addr} {T : TypeId} {v : Value} {d : TypeDesc} (ho : o.op = .load T x) (hw : Region.wanted o (yielded ops a.tmps) = true) (hx : a.eval x = .pointer (some ad))
    (hc : w.cell? ad = some v) (hu : P.underlying T = some d) (hd : aggD d = false) (h : wpList P ops Q rest (a.put o.dst v) w) : wpList P ops Q (o :: rest) a w := by
  refine wpList_wantP (v := v) (w' := w) hw ?_ h
  unfold execOp
  simp only [ho, hx, Sem.run_bind, Sem.run_pure, Result.andThen_ok, run_load1 (P := P) hc hu hd]
theorem run_loadB {g : Nat} {cs : Array Value} {t T : TypeId} {fr : Nat × Nat} {d : TypeDesc} (hg : w.heap[g]? = some (.cells cs t fr)) (hu : P.underlying T = some d) (hd : aggD d = true) (hi : (P.info? T).map (·.size) = some cs.size) :
    (Instr.loadAt T (.pointer (some ⟨g, 0, none⟩))).run P w = .ok (.agg cs) w := by
  have hc : ∀ j v, cs.toList[j]? = some v → w.cell? ((⟨g, 0, none⟩ : Addr).add j) = some v := cells_block (tl := []) (by rw [List.append_nil]; exact hg)
  have hi' : (P.info? T).map (·.size) = some cs.toList.length := by simpa using hi
  cases d with
  | struct fs => exact run_loadAt_agg w ⟨g, 0, none⟩ T cs.toList _ hc hu rfl hi'
  | array n e => exact run_loadAt_agg w ⟨g, 0, none⟩ T cs.toList _ hc hu rfl hi'
  | _ => cases hd
/-- A block is read whole. -/
theorem opG_loadB {x : Operand} {g : Nat} {cs : Array Value} {t T : TypeId} {fr : Nat × Nat} {d : TypeDesc} (ho : o.op = .load T x) (hw : Region.wanted o (yielded ops a.tmps) = true) (hx : a.eval x = .pointer (some ⟨g, 0, none⟩))
    (hg : w.heap[g]? = some (.cells cs t fr)) (hu : P.underlying T = some d) (hd : aggD d = true) (hi : (P.info? T).map (·.size) = some cs.size) (h : wpList P ops Q rest (a.put o.dst (.agg cs)) w) : wpList P ops Q (o :: rest) a w := by
  refine wpList_wantP (v := .agg cs) (w' := w) hw ?_ h
  unfold execOp
  simp only [ho, hx, Sem.run_bind, Sem.run_pure, Result.andThen_ok, run_loadB (P := P) hg hu hd hi]
end
section
variable {P : Program} {ops : Array Oper} {W : World} {Qe : (Tmp → World → Prop) → Act → Prop} {o : Oper} {r : List (Oper × (Value → World → Prop))} {E : Tmp → World → Prop} {a : Act}
theorem head_load1 {x : Operand} {g i : Nat} {cs : Array Value} {t T : TypeId} {fr : Nat × Nat} {v : Value} {d : TypeDesc} (hwant : Region.wanted o (yielded ops a.tmps) = true) (hE : ∀ t, o.dst = some t → ∀ w, E t w)
    (ho : o.op = .load T x) (hx : a.eval x = .pointer (some ⟨g, i, none⟩)) (hg : W.heap[g]? = some (.cells cs t fr)) (hv : cs[i]? = some v) (hu : P.underlying T = some d) (hd : aggD d = false)
    (h : Head P ops W Qe r E (a.put o.dst v)) : Head P ops W Qe ((o, fun x _ => x = v) :: r) E a := by
  refine head_val hwant hE (fun w hw _ => ?_) h
  unfold execOp
  simp only [ho, hx, Sem.run_bind, Sem.run_pure, Result.andThen_ok, run_load1 (P := P) (blk_cell (grow_block hg hw) hv) hu hd]
theorem head_loadCell {x : Operand} {ad : Addr} {T : TypeId} {v : Value} {d : TypeDesc} (hwant : Region.wanted o (yielded ops a.tmps) = true) (hE : ∀ t, o.dst = some t → ∀ w, E t w)
    (ho : o.op = .load T x) (hx : a.eval x = .pointer (some ad)) (hc : W.cell? ad = some v) (hu : P.underlying T = some d) (hd : aggD d = false)
    (h : Head P ops W Qe r E (a.put o.dst v)) : Head P ops W Qe ((o, fun x _ => x = v) :: r) E a := by
  refine head_val hwant hE (fun w hw _ => ?_) h
  unfold execOp
  simp only [ho, hx, Sem.run_bind, Sem.run_pure, Result.andThen_ok, run_load1 (P := P) (grow_cell hc hw) hu hd]
theorem head_loadB {x : Operand} {g : Nat} {cs : Array Value} {t T : TypeId} {fr : Nat × Nat} {d : TypeDesc} (hwant : Region.wanted o (yielded ops a.tmps) = true) (hE : ∀ t, o.dst = some t → ∀ w, E t w)
    (ho : o.op = .load T x) (hx : a.eval x = .pointer (some ⟨g, 0, none⟩)) (hg : W.heap[g]? = some (.cells cs t fr)) (hu : P.underlying T = some d) (hd : aggD d = true) (hi : (P.info? T).map (·.size) = some cs.size)
    (h : Head P ops W Qe r E (a.put o.dst (.agg cs))) : Head P ops W Qe ((o, fun x _ => x = .agg cs) :: r) E a := by
  refine head_val hwant hE (fun w hw _ => ?_) h
  unfold execOp
  simp only [ho, hx, Sem.run_bind, Sem.run_pure, Result.andThen_ok, run_loadB (P := P) (grow_block hg hw) hu hd hi]
theorem head_conv {src dst : TypeId} {x : Operand} {u v : Value} (hwant : Region.wanted o (yielded ops a.tmps) = true) (hE : ∀ t, o.dst = some t → ∀ w, E t w) (ho : o.op = .convert src dst x) (hx : a.eval x = u)
    (hrun : ∀ w, Grow W w → (∀ t ∈ o.looksAt ops, E t w) → (convert src dst u).run P w = .ok v w) (h : Head P ops W Qe r E (a.put o.dst v)) : Head P ops W Qe ((o, fun x _ => x = v) :: r) E a := by
  refine head_val hwant hE (fun w hw hl => ?_) h
  unfold execOp
  simp only [ho, hx, Sem.run_bind, Sem.run_pure, Result.andThen_ok, hrun w hw hl]
end
section
variable {P : Program} {ops : Array Oper} {Q : Exit → Act → World → Prop} {rest : List Oper} {o o2 : Oper} {a : Act} {w : World}
theorem madeCells_rep (cs : List Value) (h0 : 0 < cs.length) : ∀ n : Nat, madeCells cs.toArray (n * cs.length) = ((List.replicate n cs).flatten).toArray := by
  intro n
  apply Array.ext
  · simp [madeCells, List.length_flatten]
  · intro i h1 h2
    have hi : i < n * cs.length := by simpa [madeCells] using h1
    have hm : i % cs.length < cs.length := Nat.mod_lt _ h0
    have key : ∀ (n i : Nat), i < n * cs.length → ((List.replicate n cs).flatten)[i]? = cs[i % cs.length]? := by
      intro n
      induction n with
      | zero => intro i hi; omega
      | succ n ih =>
        intro i hi
        rw [List.replicate_succ, List.flatten_cons]
        by_cases hlt : i < cs.length
        · rw [List.getElem?_append_left hlt, Nat.mod_eq_of_lt hlt]
        · rw [List.getElem?_append_right (by omega), ih (i - cs.length) (by rw [Nat.add_mul, Nat.one_mul] at hi; omega), ← Nat.mod_eq_sub_mod (by omega)]
    have e := key n i hi
    have h2' : i < ((List.replicate n cs).flatten).length := by simpa using h2
    rw [List.getElem?_eq_getElem h2', List.getElem?_eq_getElem hm] at e
    have e := Option.some.inj e
    have e3 : ((List.replicate n cs).flatten).toArray[i] = cs[i % cs.length] := by rw [List.getElem_toArray]; exact e
    rw [e3]
    simp [madeCells, hm]
/-- make([]T, n). -/
theorem op_makeN {t e : TypeId} {x y : Operand} {z : Value} {cs : List Value} {size bytes n : Nat} (hgd : o.guard = none) (ho : o.op = .makeSlice t x y) (hx : a.eval x = .int .i64 (n : Int)) (hy : a.eval y = .int .i64 (n : Int))
    (ht : P.underlying t = some (.slice e)) (hi : (P.info? e).map (fun i => (i.zero, i.size, i.bytes)) = some (some z, size, bytes)) (hz : z.cells = cs.toArray) (hs : cs.length = size) (h0 : 0 < size) (hb : bytes * n ≤ 281474976710656) (h63 : n ≤ 9223372036854775807)
    (h : ∀ g W, w.heap.size ≤ g → g < W.heap.size → Grow w W → W.heap[g]? = some (.cells ((List.replicate n cs).flatten).toArray e (0, 0)) → wpList P ops Q rest (a.put o.dst (.slice (some ⟨g, 0, none⟩) n n)) W) : wpList P ops Q (o :: rest) a w := by
  obtain ⟨i, h1, h2, h3, h4⟩ := info_parts hi
  have hb' : ((i.bytes : Nat) : Int) * (n : Int) ≤ 281474976710656 := by
    have h : ((i.bytes * n : Nat) : Int) ≤ 281474976710656 := by rw [h4]; omega
    rwa [Int.natCast_mul] at h
  have hr := run_make (P := P) w t e i z ht h1 h2 .i64 .i64 n n (by omega) (Int.le_refl _) hb' (by omega)
  simp only [Int.toNat_natCast] at hr
  rw [h3, hz, ← hs, madeCells_rep cs (by omega)] at hr
  refine wpList_val (v := .slice (some ⟨w.heap.size, 0, none⟩) n n) (w' := w.alloc (.cells ((List.replicate n cs).flatten).toArray e)) hgd ?_ (h _ _ (Nat.le_refl _) (by simp) (grow_alloc _ _) (heap_alloc_new _ _))
  unfold execOp
  simp only [ho, hx, hy, Sem.run_bind, Sem.run_pure, Result.andThen_ok, hr]
/-- A cell of a block that is known whole is written. -/
theorem op_store1 {T : TypeId} {x y : Operand} {g i : Nat} {cs : Array Value} {t : TypeId} {v : Value} (hgd : o.guard = none) (hdst : o.dst = none) (ho : o.op = .store T x y) (hx : a.eval x = .pointer (some ⟨g, i, none⟩)) (hy : a.eval y = v)
    (hg : w.heap[g]? = some (.cells cs t (0, 0))) (hv : v.cells = #[v]) (h1 : v.oneCell' = true) (hi : (P.info? T).map (·.size) = some 1) (hfit : i < cs.size)
    (h : ∀ W, W.heap[g]? = some (.cells (cs.setIfInBounds i v) t (0, 0)) → w.grownBy W (some g) → (∀ B w0, Below B w0 w → B ≤ g → Below B w0 W) → wpList P ops Q rest a W) : wpList P ops Q (o :: rest) a w := by
  have hr := run_storeCells_at (P := P) g i t [v] 0 cs w hg (by simp; omega) (by simpa using h1)
  have e : (cs.toList.take (i + 0) ++ [v] ++ cs.toList.drop (i + 0 + [v].length)).toArray = cs.setIfInBounds i v := by
    apply Array.ext'
    simp only [Nat.add_zero, List.length_singleton, Array.toList_setIfInBounds, List.append_assoc, List.singleton_append]
    rw [List.set_eq_take_append_cons_drop, if_pos (by simpa using hfit)]
  rw [e] at hr
  have hrun : (execOp a.eval o).run P w = .ok .skip (w.setRow g (cs.setIfInBounds i v)) := by
    cases hq : P.info? T with
    | none => simp [hq] at hi
    | some j =>
      have hs : j.size = 1 := by simpa [hq] using hi
      unfold execOp
      simp [ho, hx, hy, Instr.storeAt, Instr.sureAddr, storeVar, Sem.run_bind, sizeOf, typeInfo, hq, hs, hv, hr]
  refine wpList_plain hgd fun K hK => ?_
  unfold Oper.wp
  rw [hrun]
  have e2 : a.put o.dst undef = a := by rw [hdst]; rfl
  simp only [Oper.upon, e2]
  exact hK _ _ (h _ (heap_setRow_same hg) (grownBy_setRow _ _ _) fun B w0 hb hB => below_setRow' hb hB _)
end
end Go.Qk
