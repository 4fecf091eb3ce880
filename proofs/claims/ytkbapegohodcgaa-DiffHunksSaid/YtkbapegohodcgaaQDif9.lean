/- A cell of an own row is written. -/
import Derived.Test.YtkbapegohodcgaaQDif8
set_option linter.unusedSimpArgs false
set_option linter.unusedVariables false
namespace Go.Qk
open Go.RowKit
theorem take_set_lt {α : Type} {l : List α} {i n : Nat} {v : α} (h : i < n) : (l.take n).set i v = (l.set i v).take n := by
  rw [List.take_set]
theorem own_set {w W : World} {B : Nat} {e : TypeId} {g n cap sz : Nat} {xs : List Value} {cur : Array Value} {i : Nat} {v : Value} (h : w.ownsRow B e sz (.slice (some ⟨g, 0, none⟩) n cap) n xs) (hg : w.heap[g]? = some (.cells cur e (0, 0)))
    (hW : W.heap[g]? = some (.cells (cur.setIfInBounds i v) e (0, 0))) (hi : i < n * sz) : W.ownsRow B e sz (.slice (some ⟨g, 0, none⟩) n cap) n (xs.set i v) := by
  rcases h with ⟨h0, ⟨h1, _⟩ | ⟨g', cap', cur', h1, h2, h3, h4, h5, h6, h7⟩⟩
  · cases h1
  · cases h1
    rw [h3] at hg
    injection hg with hg
    injection hg with hg _ _
    subst hg
    refine ⟨by simpa using h0, .inr ⟨g, cap, _, rfl, h2, hW, h4, h5, by simpa using h6, ?_⟩⟩
    rw [Array.toList_setIfInBounds, ← take_set_lt hi, h7]
end Go.Qk
