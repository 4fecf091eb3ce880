/- Arguments opened: a row's capacity, a struct of two numbers. -/
import Derived.Test.YtabkaflccaklhaaGreatQIdx1
import Derived.Lib.SmallJoins
set_option linter.unusedSimpArgs false
set_option linter.unusedVariables false
namespace Go.Qk
open Go.RowKit Go.ChangeShapes Go.WideShapes Go.ChangeAt Go.Deep Go.Joins
section
variable {H : Type} {enc : TypeId × Value → H} {P : Program} {w : World} {base : Nat} {sp : Nat → Bool} {held : Bool}
theorem row_cap {t e : TypeId} {fuel : Nat} {a : Option Addr} {len cap : Nat} {x : DataW H × List MemPlace} (ht : P.underlying t = some (.slice e))
    (h : DataW.trod enc P w base sp held fuel t (Value.slice a len cap).cells.toList = some x) : len ≤ cap := by
  rcases DataW.trod_slice ht h with ⟨h1, _⟩ | ⟨b, l, c, elems, rest, n, _, hcs, _, _, hl, _⟩
  · simp [Value.cells] at h1
    obtain ⟨rfl, rfl, rfl⟩ := h1
    exact Nat.le_refl _
  · simp [Value.cells] at hcs
    obtain ⟨rfl, rfl, rfl⟩ := hcs
    exact hl
theorem open_two {r : Reach} {b0 : Nat} {t : TypeId} {f0 f1 : Field} {v : Value} {d : DataW H} {p : List MemPlace} (hs : P.underlying t = some (.struct #[f0, f1])) (hone : oneCellFields P #[f0, f1] = true) (hC : P.cellsOf t = 2) (h0 : P.underlying f0.type = some (.int .i64)) (h1 : P.underlying f1.type = some (.int .i64))
    (hv : Value.okWide P w r b0 t v) (h : DataW.Trod enc P w base sp held t v d p) : ∃ a b : Int, v = .agg #[.int .i64 a, .int .i64 b] ∧ (Lit.int .i64 a).wf = true ∧ (Lit.int .i64 b).wf = true ∧ p = [] := by
  obtain ⟨v0, v1, y0, y1, n, rfl, _, hp, t0, t1⟩ := Go.Joins.open_agg2 hs hone hC hv h
  obtain ⟨a, e0, hy0, w0⟩ := DataW.trod_int h0 t0
  obtain ⟨b, e1, hy1, w1⟩ := DataW.trod_int h1 t1
  injection e0 with e0
  injection e1 with e1
  subst e0 e1
  exact ⟨a, b, rfl, w0, w1, by rw [hp, hy0, hy1]; rfl⟩
end
end Go.Qk
