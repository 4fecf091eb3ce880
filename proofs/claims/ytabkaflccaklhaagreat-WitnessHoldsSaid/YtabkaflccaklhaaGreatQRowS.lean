/- Arguments opened: a signature. -/
import Derived.Test.YtabkaflccaklhaaGreatQRowC
set_option linter.unusedSimpArgs false
set_option linter.unusedVariables false
namespace Go.Qk
open Go.RowKit Go.ChangeShapes Go.WideShapes Go.ChangeAt Go.Deep Go.Joins
section
variable {H : Type} {enc : TypeId × Value → H} {P : Program} {w : World} {base : Nat} {sp : Nat → Bool} {held : Bool}
theorem slice_one {t e : TypeId} {n : Nat} {v : Value} {y : DataW H × List MemPlace} (ht : P.underlying t = some (.slice e)) (h : DataW.trod enc P w base sp held n t [v] = some y) : ∃ a len cap, v = .slice a len cap := by
  rcases DataW.trod_slice ht h with ⟨h1, _⟩ | ⟨b, l, c, elems, rest, n, _, hcs, _⟩
  · injection h1 with h1
    exact ⟨_, _, _, h1⟩
  · injection hcs with hcs
    exact ⟨_, _, _, hcs⟩
theorem open_ids1 {t e u : TypeId} {n : Nat} {v : Value} {y : DataW H × List MemPlace} (ht : P.underlying t = some (.slice e)) (he : P.underlying e = some (.array 32 u)) (hce : P.cellsOf e = 32) (hu : P.underlying u = some (.int .u8)) (hcu : P.cellsOf u = 1) (h : DataW.trod enc P w base sp held n t [v] = some y) :
    ∃ a len cap xs, v = .slice a len cap ∧ IdRow w a xs ∧ xs.length = len ∧ (∀ s ∈ xs, s.length = 32) ∧ len ≤ cap := by
  obtain ⟨a, len, cap, rfl⟩ := slice_one ht h
  have h' : DataW.trod enc P w base sp held n t (Value.slice a len cap).cells.toList = some y := h
  obtain ⟨xs, q1, q2, q3⟩ := open_idRow ht he hce hu hcu h'
  exact ⟨a, len, cap, xs, rfl, q1, q2, q3, row_cap ht h'⟩
theorem open_sig {r : Reach} {b0 : Nat} {t e u : TypeId} {f0 f1 f2 f3 : Field} {v : Value} {d : DataW H} {p : List MemPlace} (hs : P.underlying t = some (.struct #[f0, f1, f2, f3])) (hone : oneCellFields P #[f0, f1, f2, f3] = true) (hC : P.cellsOf t = 4) (h0 : P.underlying f0.type = some (.int .i64))
    (h1 : P.underlying f1.type = some (.slice e)) (h2 : P.underlying f2.type = some (.slice e)) (h3 : P.underlying f3.type = some (.slice e)) (he : P.underlying e = some (.array 32 u)) (hce : P.cellsOf e = 32) (hu : P.underlying u = some (.int .u8)) (hcu : P.cellsOf u = 1)
    (hv : Value.okWide P w r b0 t v) (h : DataW.Trod enc P w base sp held t v d p) :
    ∃ (leaf : Int) (A B C : Option Addr) (n m k c d e : Nat) (shown hidden way : List (List UInt8)), v = .agg #[.int .i64 leaf, .slice A n c, .slice B m d, .slice C k e] ∧ (Lit.int .i64 leaf).wf = true ∧
      (IdRow w A shown ∧ shown.length = n ∧ (∀ s ∈ shown, s.length = 32) ∧ n ≤ c) ∧ (IdRow w B hidden ∧ hidden.length = m ∧ (∀ s ∈ hidden, s.length = 32) ∧ m ≤ d) ∧ (IdRow w C way ∧ way.length = k ∧ (∀ s ∈ way, s.length = 32) ∧ k ≤ e) := by
  obtain ⟨v0, v1, v2, v3, y0, y1, y2, y3, n, rfl, _, _, t0, t1, t2, t3⟩ := Go.Joins.open_agg4 hs hone hC hv h
  obtain ⟨leaf, e0, _, w0⟩ := DataW.trod_int h0 t0
  injection e0 with e0
  subst e0
  obtain ⟨A, n1, c, xs, rfl, a1⟩ := open_ids1 h1 he hce hu hcu t1
  obtain ⟨B, n2, d, ys, rfl, a2⟩ := open_ids1 h2 he hce hu hcu t2
  obtain ⟨C, n3, e, zs, rfl, a3⟩ := open_ids1 h3 he hce hu hcu t3
  exact ⟨leaf, A, B, C, n1, n2, n3, c, d, e, xs, ys, zs, rfl, w0, a1, a2, a3⟩
end
end Go.Qk
