/- Arguments opened: a row of journal frames. -/
import Derived.Test.YtkbapegohodcgaaQJou8
import Derived.Test.YtkbapegohodcgaaQRowS
import Derived.SizedLaws
set_option linter.unusedSimpArgs false
set_option linter.unusedVariables false
namespace Go.Proofs.Ytkbapegohodcgaa
open Go.RowKit Go.ChangeShapes Go.WideShapes Go.ChangeAt Go.Deep Go.Joins
open Go.Qk hiding rotr b4
set_option maxHeartbeats 1000000
set_option maxRecDepth 100000
theorem open_fms {H : Type} {enc : TypeId × Value → H} {w : World} {base : Nat} {sp : Nat → Bool} {held : Bool} {fuel : Nat} {a : Option Addr} {len cap : Nat} {x : DataW H × List MemPlace}
    (h : DataW.trod enc Try.prog w base sp held fuel 88 (Value.slice a len cap).cells.toList = some x) : ∃ l : List (Int × List UInt8), FmRow w a l ∧ l.length = len ∧ (len = 0 ∨ ∃ el sp', x.1 = .slice el sp' ∧ el.length = len) := by
  rcases DataW.trod_slice Try.underlying88 h with ⟨h1, _⟩ | ⟨b, l, c, elems, rest, n, hX, hcs, hY, hZ, hl, hm, hlen, hel, hU⟩
  · simp [Value.cells] at h1
    obtain ⟨rfl, rfl, rfl⟩ := h1
    exact ⟨[], ⟨by simp, fun h => absurd rfl h⟩, rfl, .inl rfl⟩
  · simp [Value.cells] at hcs
    obtain ⟨rfl, rfl, rfl⟩ := hcs
    have hce : Try.prog.cellsOf 93 = 2 := by kernel_rfl
    have each : ∀ i, i < len → ∃ y : Int × List UInt8, (∀ j v, (fmCells y)[j]? = some v → w.cell? ((b.add (i * 2)).add j) = some v) := by
      intro i hi
      have hE := hel i hi
      rw [hce, List.getElem?_eq_getElem (by omega), Option.bind_eq_some_iff] at hE
      obtain ⟨cs, hcs, hy⟩ := hE
      obtain ⟨h2, h3, h4⟩ := World.cells?_some hcs
      obtain ⟨y0, y1, n', _, hl3, t0, t1⟩ := trod_struct2 Try.underlying93 hy
      match cs, h3 with
      | [c0, c1], _ =>
        have t0' : DataW.trod enc Try.prog w base sp held n' 3 [c0] = some y0 := t0
        have t1' : DataW.trod enc Try.prog w base sp held n' 9 [c1] = some y1 := t1
        obtain ⟨p, e0, _, w0⟩ := DataW.trod_int Try.underlying3 t0'
        injection e0 with e0
        subst e0
        obtain ⟨s, e1, _, w1⟩ := DataW.trod_string Try.underlying9 t1'
        injection e1 with e1
        subst e1
        refine ⟨(p, s.data.toList), fun j v hv => ?_⟩
        have hj : j < 2 := (List.getElem?_eq_some_iff.1 hv).1
        rw [h4 j hj]
        have e : fmCells (p, s.data.toList) = [.int .i64 p, .string s] := by unfold fmCells bs; simp
        rw [e] at hv
        exact hv
    have ch : ∃ f : Nat → Int × List UInt8, ∀ i, i < len → (∀ j v, (fmCells (f i))[j]? = some v → w.cell? ((b.add (i * 2)).add j) = some v) := by
      refine ⟨fun i => if h : i < len then (each i h).choose else fm0, fun i hi => ?_⟩
      simp only [dif_pos hi]
      exact (each i hi).choose_spec
    obtain ⟨f, hf⟩ := ch
    unfold maxLen at hm
    refine ⟨(List.range len).map f, ⟨by simp; omega, fun _ => ⟨b, rfl, fun i hi => ?_⟩⟩, by simp, ?_⟩
    · have hi' : i < len := by simpa using hi
      have e1 : ((List.range len).map f).getD i fm0 = f i := by simp [hi']
      rw [e1]
      exact hf i hi'
    · exact .inr ⟨_, _, by rw [hY], by simp [hlen]⟩
end Go.Proofs.Ytkbapegohodcgaa
