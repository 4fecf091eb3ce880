/- Arguments opened: a row of hunks. -/
import Derived.Test.YtkbapegohodcgaaQDifG
import Derived.Test.YtkbapegohodcgaaQRowS
import Derived.Deep.Strs
set_option linter.unusedSimpArgs false
set_option linter.unusedVariables false
namespace Go.Proofs.Ytkbapegohodcgaa
open Go.RowKit Go.ChangeShapes Go.WideShapes Go.ChangeAt Go.Deep Go.Joins
open Go.Qk hiding rotr b4
set_option maxHeartbeats 1000000
set_option maxRecDepth 100000
/-- A hunk that came in. -/
structure HkArg where
  v : HkV
  o : List ByteArray
  n : List ByteArray
def hka0 : HkArg := ⟨hkv0, [], []⟩
structure HkArgs (w : World) (A : Option Addr) (l : List HkArg) : Prop where
  row : HkRow w A (l.map HkArg.v)
  is : ∀ x ∈ l, StrRow w x.v.a x.o ∧ x.o.length = x.v.n ∧ (∀ s ∈ x.o, s.size ≤ 9223372036854775807) ∧ StrRow w x.v.b x.n ∧ x.n.length = x.v.m ∧ (∀ s ∈ x.n, s.size ≤ 9223372036854775807) ∧ (Lit.int .i64 x.v.pos).wf = true
theorem HkArgs.grow {w w1 : World} {A : Option Addr} {l : List HkArg} (h : HkArgs w A l) (hg : Grow w w1) : HkArgs w1 A l :=
  ⟨h.row.grow hg, fun x hx => by obtain ⟨a, b, c, d, e, f⟩ := h.is x hx; exact ⟨a.grow hg, b, c, d.grow hg, e, f⟩⟩
theorem open_hks {H : Type} {enc : TypeId × Value → H} {w : World} {base : Nat} {sp : Nat → Bool} {held : Bool} {fuel : Nat} {a : Option Addr} {len cap : Nat} {x : DataW H × List MemPlace}
    (h : DataW.trod enc Try.prog w base sp held fuel 65 (Value.slice a len cap).cells.toList = some x) : ∃ l : List HkArg, HkArgs w a l ∧ l.length = len := by
  rcases DataW.trod_slice Try.underlying65 h with ⟨h1, _⟩ | ⟨b, l, c, elems, rest, n, _, hcs, _, _, hl, hm, hlen, hel, _⟩
  · simp [Value.cells] at h1
    obtain ⟨rfl, rfl, rfl⟩ := h1
    exact ⟨[], ⟨⟨by simp, fun h => absurd rfl h⟩, fun _ h => by cases h⟩, rfl⟩
  · simp [Value.cells] at hcs
    obtain ⟨rfl, rfl, rfl⟩ := hcs
    have hce : Try.prog.cellsOf 77 = 3 := by kernel_rfl
    have each : ∀ i, i < len → ∃ y : HkArg, (∀ j v, y.v.cells[j]? = some v → w.cell? ((b.add (i * 3)).add j) = some v) ∧ (StrRow w y.v.a y.o ∧ y.o.length = y.v.n ∧ (∀ s ∈ y.o, s.size ≤ 9223372036854775807) ∧ StrRow w y.v.b y.n ∧ y.n.length = y.v.m ∧ (∀ s ∈ y.n, s.size ≤ 9223372036854775807) ∧ (Lit.int .i64 y.v.pos).wf = true) := by
      intro i hi
      have hE := hel i hi
      rw [hce, List.getElem?_eq_getElem (by omega), Option.bind_eq_some_iff] at hE
      obtain ⟨cs, hcs, hy⟩ := hE
      obtain ⟨h2, h3, h4⟩ := World.cells?_some hcs
      obtain ⟨y0, y1, y2, n', _, hl3, t0, t1, t2⟩ := trod_struct3 Try.underlying77 hy
      match cs, h3 with
      | [c0, c1, c2], _ =>
        have t0' : DataW.trod enc Try.prog w base sp held n' 3 [c0] = some y0 := t0
        have t1' : DataW.trod enc Try.prog w base sp held n' 22 [c1] = some y1 := t1
        have t2' : DataW.trod enc Try.prog w base sp held n' 22 [c2] = some y2 := t2
        obtain ⟨p, e0, _, w0⟩ := DataW.trod_int Try.underlying3 t0'
        injection e0 with e0
        subst e0
        obtain ⟨A1, n1, k1, rfl⟩ := slice_one Try.underlying22 t1'
        obtain ⟨A2, n2, k2, rfl⟩ := slice_one Try.underlying22 t2'
        obtain ⟨xs, q1, q2, q3⟩ := open_strRow Try.underlying22 Try.underlying9 (by kernel_rfl) (show DataW.trod enc Try.prog w base sp held n' 22 (Value.slice A1 n1 k1).cells.toList = some y1 from t1')
        obtain ⟨ys, r1, r2, r3⟩ := open_strRow Try.underlying22 Try.underlying9 (by kernel_rfl) (show DataW.trod enc Try.prog w base sp held n' 22 (Value.slice A2 n2 k2).cells.toList = some y2 from t2')
        refine ⟨⟨⟨p, A1, n1, k1, A2, n2, k2⟩, xs, ys⟩, fun j v hv => ?_, q1, q2, q3, r1, r2, r3, w0⟩
        have hj : j < 3 := (List.getElem?_eq_some_iff.1 hv).1
        rw [h4 j hj]
        exact hv
    have ch : ∃ f : Nat → HkArg, ∀ i, i < len → (∀ j v, (f i).v.cells[j]? = some v → w.cell? ((b.add (i * 3)).add j) = some v) ∧ (StrRow w (f i).v.a (f i).o ∧ (f i).o.length = (f i).v.n ∧ (∀ s ∈ (f i).o, s.size ≤ 9223372036854775807) ∧ StrRow w (f i).v.b (f i).n ∧ (f i).n.length = (f i).v.m ∧ (∀ s ∈ (f i).n, s.size ≤ 9223372036854775807) ∧ (Lit.int .i64 (f i).v.pos).wf = true) := by
      refine ⟨fun i => if h : i < len then (each i h).choose else hka0, fun i hi => ?_⟩
      simp only [dif_pos hi]
      exact (each i hi).choose_spec
    obtain ⟨f, hf⟩ := ch
    unfold maxLen at hm
    refine ⟨(List.range len).map f, ⟨⟨by simp; omega, fun _ => ⟨b, rfl, fun i hi => ?_⟩⟩, fun s hs => ?_⟩, by simp⟩
    · have hi' : i < len := by simpa using hi
      have e1 : (((List.range len).map f).map HkArg.v).getD i hkv0 = (f i).v := by simp [hi']
      rw [e1]
      exact (hf i hi').1
    · obtain ⟨i, hi, rfl⟩ := List.mem_map.1 hs
      exact (hf i (List.mem_range.1 hi)).2
end Go.Proofs.Ytkbapegohodcgaa
