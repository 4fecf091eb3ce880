/- A drawn region walked eagerly: what is pure comes as soon as it may; of what writes or calls one comes at a time. -/
import Derived.Test.YtabkaflccaklhaaGreatQLamp2
import Derived.Test.YtabkaflccaklhaaGreatQStr
set_option linter.unusedSimpArgs false
set_option linter.unusedVariables false
namespace Go.Proofs.YtabkaflccaklhaaGreat
open Go.RowKit
open Go.Qk hiding rotr b4
set_option maxHeartbeats 1000000
section
variable {P : Program} {ops : Array Oper} {md : Region.Mode} {S : World → Prop} {Q : Exit → Act → World → Prop}
theorem one_does {n c : Nat} {o : Oper} {l : Array Bool} {a : Act} {w : World} {V : Value → World → Prop} (hr : Region.ready md ops l = [c]) (ho : ops[c]? = some o) (hg : o.guard = none) (hd : Does P o a w V)
    (h : ∀ v w', V v w' → S w' ∧ wpAnyH P md ops Q S n (l.setIfInBounds c true) (a.put o.dst v) w') : wpAnyH P md ops Q S (n + 1) l a w := by
  refine wpAnyH_all hr (by simp) fun i hi => ?_
  obtain rfl : i = c := by simpa using hi
  exact wpOp_does ho hg hd h
theorem one_call {n c : Nat} {o : Oper} {l : Array Bool} {a : Act} {w : World} {f : FuncId} {args : Array Value} {E : Ending → World → Prop} (hr : Region.ready md ops l = [c]) (ho : ops[c]? = some o) (hg : o.guard = none) (hrun : (execOp a.eval o).run P w = .ok (.enter f args) w)
    (hc : Calls P f args w E) (hE : ∀ e w', E e w' → ∃ v, e = .returned v) (h : ∀ v w', E (.returned v) w' → S w' ∧ wpAnyH P md ops Q S n (l.setIfInBounds c true) (a.put o.dst v) w') : wpAnyH P md ops Q S (n + 1) l a w := by
  refine one_does (V := fun v w' => E (.returned v) w') hr ho hg (does_call hrun (hc.mono fun e w' he => ?_)) h
  obtain ⟨v, rfl⟩ := hE e w' he
  exact ⟨v, rfl, he⟩
/-- A cell of a block that is known whole is written. -/
def Wrote1 (g : Nat) (cs : Array Value) (t : TypeId) (w : World) (_ : Value) (w' : World) : Prop := w'.heap[g]? = some (.cells cs t (0, 0)) ∧ w.grownBy w' (some g) ∧ (∀ B w0, Below B w0 w → B ≤ g → Below B w0 w')
theorem does_store1 {o : Oper} {a : Act} {w : World} {T : TypeId} {x y : Operand} {g i : Nat} {cs : Array Value} {t : TypeId} {v : Value} (ho : o.op = .store T x y) (hx : a.eval x = .pointer (some ⟨g, i, none⟩)) (hy : a.eval y = v)
    (hg : w.heap[g]? = some (.cells cs t (0, 0))) (hv : v.cells = #[v]) (h1 : v.oneCell' = true) (hi : (P.info? T).map (·.size) = some 1) (hfit : i < cs.size) : Does P o a w (Wrote1 g (cs.setIfInBounds i v) t w) := by
  have hr := run_storeCells_at (P := P) g i t [v] 0 cs w hg (by simp; omega) (by simpa using h1)
  have e : (cs.toList.take (i + 0) ++ [v] ++ cs.toList.drop (i + 0 + [v].length)).toArray = cs.setIfInBounds i v := by
    apply Array.ext'
    simp only [Nat.add_zero, List.length_singleton, Array.toList_setIfInBounds, List.append_assoc, List.singleton_append]
    rw [List.set_eq_take_append_cons_drop, if_pos (by simpa using hfit)]
  rw [e] at hr
  have hrun : (execOp a.eval o).run P w = .ok .skip (w.setRow g (cs.setIfInBounds i v)) := by
    cases hq : P.info? T with
    | none => simp [hq] at hi
    | some j =>
      have hs : j.size = 1 := by simpa [hq] using hi
      unfold execOp
      simp [ho, hx, hy, Instr.storeAt, Instr.sureAddr, storeVar, Sem.run_bind, sizeOf, typeInfo, hq, hs, hv, hr]
  unfold Does
  rw [hrun]
  exact ⟨heap_setRow_same hg, grownBy_setRow _ _ _, fun B w0 hb hB => below_setRow' hb hB _⟩
theorem run_opLoad1 {o : Oper} {a : Act} {w : World} {x : Operand} {ad : Addr} {T : TypeId} {v : Value} {d : TypeDesc} (ho : o.op = .load T x) (hx : a.eval x = .pointer (some ad)) (hc : w.cell? ad = some v) (hu : P.underlying T = some d) (hd : aggD d = false) : (execOp a.eval o).run P w = .ok (.value v) w := by
  unfold execOp
  simp only [ho, hx, Sem.run_bind, Sem.run_pure, Result.andThen_ok, run_load1 (P := P) hc hu hd]
/-- A struct or an array out of a block's middle. -/
theorem run_opLoadM {o : Oper} {a : Act} {w : World} {x : Operand} {g off : Nat} {T t : TypeId} {pre cs post : List Value} {fr : Nat × Nat} {d : TypeDesc} (ho : o.op = .load T x) (hx : a.eval x = .pointer (some ⟨g, off, none⟩)) (hg : w.heap[g]? = some (.cells (pre ++ (cs ++ post)).toArray t fr)) (hoff : pre.length = off)
    (hu : P.underlying T = some d) (hd : aggD d = true) (hi : (P.info? T).map (·.size) = some cs.length) : (execOp a.eval o).run P w = .ok (.value (.agg cs.toArray)) w := by
  have hc : ∀ j v, cs[j]? = some v → w.cell? ((⟨g, off, none⟩ : Addr).add j) = some v := by
    intro j v hj
    have hjl := (List.getElem?_eq_some_iff.1 hj).1
    have e : (⟨g, off, none⟩ : Addr).add j = ⟨g, off + j, none⟩ := by unfold Addr.add; split <;> simp_all
    rw [e, cell_of_row w g (off + j) _ t fr hg]
    rw [List.getElem?_toArray, List.getElem?_append_right (by omega), hoff, show off + j - off = j by omega, List.getElem?_append_left hjl, hj]
  have hr : (Instr.loadAt T (.pointer (some ⟨g, off, none⟩))).run P w = .ok (.agg cs.toArray) w := by
    cases d with
    | struct fs => exact run_loadAt_agg w _ T cs _ hc hu rfl hi
    | array n e => exact run_loadAt_agg w _ T cs _ hc hu rfl hi
    | _ => cases hd
  unfold execOp
  simp only [ho, hx, Sem.run_bind, Sem.run_pure, Result.andThen_ok, hr]
end
end Go.Proofs.YtabkaflccaklhaaGreat
