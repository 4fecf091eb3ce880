/- A cell for a struct, made in a drawn region. -/
import Derived.Test.YtabkaflccaklhaaQFr
set_option linter.unusedSimpArgs false
set_option linter.unusedVariables false
namespace Go.Proofs.Ytabkaflccaklhaa
open Go.RowKit
open Go.Qk hiding rotr b4
set_option maxHeartbeats 1000000
/-- A cell for a struct, made in a drawn region. -/
def celNewW (T : TypeId) (cs : Array Value) (W : World) (v : Value) (w : World) : Prop := ∃ g, v = .pointer (some ⟨g, 0, none⟩) ∧ W.heap.size ≤ g ∧ w.heap[g]? = some (.cells cs T (0, 0))
section
variable {ops : Array Oper} {W : World} {Qe : (Tmp → World → Prop) → Act → Prop}
theorem head_newCW {o : Oper} {r : List (Oper × (Value → World → Prop))} {E : Tmp → World → Prop} {a : Act} {T : TypeId} {cs : Array Value} (hwant : Region.wanted o (yielded ops a.tmps) = true) (ho : o.op = .alloc T)
    (hr : ∀ w, (Instr.alloc T true (.tuple #[])).run Try.prog w = .ok (.pointer (some ⟨w.heap.size, 0, none⟩)) (w.alloc (.cells cs T)))
    (h : ∀ g, Head Try.prog ops W Qe r (upE E o.dst (celNewW T cs W (.pointer (some ⟨g, 0, none⟩)))) (a.put o.dst (.pointer (some ⟨g, 0, none⟩)))) : Head Try.prog ops W Qe ((o, celNewW T cs W) :: r) E a := by
  refine head_abs (V := celNewW T cs W) hwant ?_ ?_ ?_
  · rintro v w1 w2 ⟨g, rfl, h1, h3⟩ hg
    exact ⟨g, rfl, h1, grow_block h3 hg⟩
  · intro w1 hw1 _
    refine does_val (v := .pointer (some ⟨w1.heap.size, 0, none⟩)) (w' := w1.alloc (.cells cs T)) ?_ ⟨grow_alloc _ _, _, rfl, hw1.size, heap_alloc_new _ _⟩
    unfold execOp
    simp only [ho, Sem.run_bind, Sem.run_pure, Result.andThen_ok, hr]
  · rintro v ⟨_, g, rfl, _⟩
    exact h g
theorem celNewW_at {E : Tmp → World → Prop} {t : Tmp} {g : Nat} {w : World} {T : TypeId} {cs : Array Value} (h : upE E (some t) (celNewW T cs W (.pointer (some ⟨g, 0, none⟩))) t w) : W.heap.size ≤ g ∧ w.heap[g]? = some (.cells cs T (0, 0)) := by
  unfold upE at h
  rw [if_pos rfl] at h
  obtain ⟨g', hg, h1, h3⟩ := h
  injection hg with hg
  injection hg with hg
  injection hg with hg
  subst hg
  exact ⟨h1, h3⟩
end
end Go.Proofs.Ytabkaflccaklhaa
