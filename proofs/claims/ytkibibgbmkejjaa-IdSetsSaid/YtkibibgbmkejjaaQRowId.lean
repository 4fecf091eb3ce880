import Derived.Test.YtkibibgbmkejjaaQRowKit
import Derived.WideKeyArr2
set_option linter.unusedSimpArgs false
set_option linter.unusedVariables false
namespace Go.Qk
open Go.RowKit Go.ChangeShapes Go.WideShapes Go.ChangeAt
section
variable {H : Type} {enc : TypeId × Value → H} {P : Program} {w : World} {base : Nat} {sp : Nat → Bool} {held : Bool}
/-- A byte out of a cell. -/
def byteOf : Value → UInt8
  | .int _ a => UInt8.ofNat a.toNat
  | _ => 0
theorem u8s_byteOf (cs : List Value) (h : ∀ v ∈ cs, ∃ a, v = .int .u8 a ∧ (Lit.int .u8 a).wf = true) : u8s (cs.map byteOf) = cs := by
  unfold u8s
  rw [List.map_map]
  conv => rhs; rw [← List.map_id cs]
  apply List.map_congr_left
  intro v hv
  obtain ⟨a, rfl, ha⟩ := h v hv
  simp [Lit.wf, IntKind.min, IntKind.max, IntKind.signed, IntKind.bits] at ha
  simp only [Function.comp, byteOf, id]
  congr 1
  rw [UInt8.toNat_ofNat']
  omega
theorem trod_id {t e : TypeId} {fuel : Nat} {cs : List Value} {x : DataW H × List MemPlace} (ht : P.underlying t = some (.array 32 e)) (he : P.underlying e = some (.int .u8)) (hc : P.cellsOf e = 1) (hl : cs.length = 32)
    (hf : DataW.trod enc P w base sp held fuel t cs = some x) : ∃ l : List UInt8, cs = u8s l ∧ l.length = 32 ∧ x.2 = [] := by
  obtain ⟨xs, m, rfl, hx, _, hn, hel⟩ := DataW.trod_array ht hf
  have hall : ∀ i, i < 32 → ∃ a, cs[i]? = some (.int .u8 a) ∧ (Lit.int .u8 a).wf = true ∧ ∃ y, xs[i]? = some y ∧ y.2 = [] := by
    intro i hi
    have hE := hel i hi
    rw [hc, Nat.mul_one] at hE
    have hxi : xs[i]? = some xs[i] := List.getElem?_eq_getElem (by omega)
    rw [hxi] at hE
    obtain ⟨a, ea, hy, wa⟩ := DataW.trod_int he hE
    refine ⟨a, ?_, wa, xs[i], hxi, ?_⟩
    · have e1 : ((cs.drop i).take 1)[0]? = some (.int .u8 a) := by rw [ea]; rfl
      simpa using e1
    · rw [hy]
  have hcell : ∀ v ∈ cs, ∃ a, v = .int .u8 a ∧ (Lit.int .u8 a).wf = true := by
    intro v hv
    obtain ⟨i, hi, rfl⟩ := List.mem_iff_getElem.1 hv
    obtain ⟨a, h1, h2, _⟩ := hall i (by omega)
    rw [List.getElem?_eq_getElem hi] at h1
    exact ⟨a, Option.some.inj h1, h2⟩
  refine ⟨cs.map byteOf, (u8s_byteOf _ hcell).symm, by rw [List.length_map, hl], ?_⟩
  rw [hx, List.flatMap_eq_nil_iff]
  intro y hy
  obtain ⟨i, hi, rfl⟩ := List.mem_iff_getElem.1 hy
  obtain ⟨a, _, _, y, h1, h2⟩ := hall i (by omega)
  rw [List.getElem?_eq_getElem hi] at h1
  rw [Option.some.inj h1]
  exact h2
/-- A row of ids that is read. -/
def IdRow (w : World) (A : Option Addr) (xs : List (List UInt8)) : Prop := xs.length ≤ 9223372036854775807 ∧ (xs ≠ [] → ∃ ad, A = some ad ∧ ∀ i, i < xs.length → ∀ j v, (u8s (xs.getD i []))[j]? = some v → w.cell? ((ad.add (i * 32)).add j) = some v)
theorem IdRow.grow {w1 : World} {A : Option Addr} {xs : List (List UInt8)} (h : IdRow w A xs) (hg : Grow w w1) : IdRow w1 A xs :=
  ⟨h.1, fun hne => by obtain ⟨ad, e, hc⟩ := h.2 hne; exact ⟨ad, e, fun i hi j v hv => grow_cell (hc i hi j v hv) hg⟩⟩
theorem IdRow.at_ {A : Option Addr} {xs : List (List UInt8)} (h : IdRow w A xs) (i : Nat) (hi : i < xs.length) : ∃ ad, A = some ad ∧ ∀ j v, (u8s (xs.getD i []))[j]? = some v → w.cell? ((ad.add (i * 32)).add j) = some v := by
  obtain ⟨ad, e, hc⟩ := h.2 (by intro e; subst e; simp at hi)
  exact ⟨ad, e, hc i hi⟩
theorem open_idRow {t e u : TypeId} {fuel : Nat} {a : Option Addr} {len cap : Nat} {x : DataW H × List MemPlace} (ht : P.underlying t = some (.slice e)) (he : P.underlying e = some (.array 32 u)) (hce : P.cellsOf e = 32) (hu : P.underlying u = some (.int .u8)) (hcu : P.cellsOf u = 1)
    (h : DataW.trod enc P w base sp held fuel t (Value.slice a len cap).cells.toList = some x) :
    ∃ xs, IdRow w a xs ∧ xs.length = len ∧ ∀ s ∈ xs, s.length = 32 := by
  rcases DataW.trod_slice ht h with ⟨h1, _⟩ | ⟨b, l, c, elems, rest, n, _, hcs, _, _, hl, hm, hlen, hel, _⟩
  · simp [Value.cells] at h1
    obtain ⟨rfl, rfl, rfl⟩ := h1
    exact ⟨[], ⟨by simp, fun h => absurd rfl h⟩, rfl, fun _ h => by cases h⟩
  · simp [Value.cells] at hcs
    obtain ⟨rfl, rfl, rfl⟩ := hcs
    have each : ∀ i, i < len → ∃ l : List UInt8, l.length = 32 ∧ ∀ j v, (u8s l)[j]? = some v → w.cell? ((b.add (i * 32)).add j) = some v := by
      intro i hi
      have hE := hel i hi
      rw [hce, List.getElem?_eq_getElem (by omega), Option.bind_eq_some_iff] at hE
      obtain ⟨cs, hcs, hy⟩ := hE
      obtain ⟨h2, h3, h4⟩ := World.cells?_some hcs
      obtain ⟨l, rfl, hl32, _⟩ := trod_id he hu hcu h3 hy
      refine ⟨l, hl32, fun j v hv => ?_⟩
      have hj : j < 32 := by have := (List.getElem?_eq_some_iff.1 hv).1; omega
      rw [h4 j hj]
      exact hv
    have ch : ∃ f : Nat → List UInt8, ∀ i, i < len → (f i).length = 32 ∧ ∀ j v, (u8s (f i))[j]? = some v → w.cell? ((b.add (i * 32)).add j) = some v := by
      refine ⟨fun i => if h : i < len then (each i h).choose else [], fun i hi => ?_⟩
      simp only [dif_pos hi]
      exact (each i hi).choose_spec
    obtain ⟨f, hf⟩ := ch
    unfold maxLen at hm
    refine ⟨(List.range len).map f, ⟨by simp; omega, fun _ => ⟨b, rfl, fun i hi => ?_⟩⟩, by simp, fun s hs => ?_⟩
    · have hi' : i < len := by simpa using hi
      have e1 : ((List.range len).map f).getD i [] = f i := by simp [hi']
      rw [e1]
      exact (hf i hi').2
    · obtain ⟨i, hi, rfl⟩ := List.mem_map.1 hs
      exact (hf i (List.mem_range.1 hi)).1
theorem open_id {r : Reach} {b0 : Nat} {t e : TypeId} {v : Value} {d : DataW H} {p : List MemPlace} (ht : P.underlying t = some (.array 32 e)) (he : P.underlying e = some (.int .u8)) (hc : P.cellsOf e = 1) (hct : P.cellsOf t = 32)
    (hv : Value.okWide P w r b0 t v) (h : DataW.Trod enc P w base sp held t v d p) : ∃ x : List UInt8, v = idV x ∧ x.length = 32 ∧ p = [] := by
  simp only [Value.okWide, ht] at hv
  obtain ⟨cs, rfl, h2, _⟩ := hv
  obtain ⟨fuel, hf⟩ := h
  obtain ⟨xs, m, rfl, hx, hl, hn, hel⟩ := DataW.trod_array ht hf
  have hcl : cs.toList.length = 32 := by rw [Array.length_toList, h2, hct]
  have hall : ∀ i, i < 32 → ∃ a, cs.toList[i]? = some (.int .u8 a) ∧ (Lit.int .u8 a).wf = true ∧ ∃ y, xs[i]? = some y ∧ y.2 = [] := by
    intro i hi
    have hE := hel i hi
    rw [hc, Nat.mul_one] at hE
    have hxi : xs[i]? = some xs[i] := List.getElem?_eq_getElem (by omega)
    rw [hxi] at hE
    obtain ⟨a, ea, hy, wa⟩ := DataW.trod_int he hE
    refine ⟨a, ?_, wa, xs[i], hxi, ?_⟩
    · have e1 : ((cs.toList.drop i).take 1)[0]? = some (.int .u8 a) := by
        simp only [Value.cells] at ea
        rw [ea]; rfl
      simpa using e1
    · rw [hy]
  have hcell : ∀ v ∈ cs.toList, ∃ a, v = .int .u8 a ∧ (Lit.int .u8 a).wf = true := by
    intro v hv
    obtain ⟨i, hi, rfl⟩ := List.mem_iff_getElem.1 hv
    obtain ⟨a, h1, h2, _⟩ := hall i (by omega)
    rw [List.getElem?_eq_getElem hi] at h1
    exact ⟨a, Option.some.inj h1, h2⟩
  refine ⟨cs.toList.map byteOf, ?_, by rw [List.length_map, hcl], ?_⟩
  · unfold idV
    rw [u8s_byteOf _ hcell]
  · have hp : p = xs.flatMap (·.2) := by injection hx
    rw [hp, List.flatMap_eq_nil_iff]
    intro y hy
    obtain ⟨i, hi, rfl⟩ := List.mem_iff_getElem.1 hy
    obtain ⟨a, _, _, y, h1, h2⟩ := hall i (by omega)
    rw [List.getElem?_eq_getElem hi] at h1
    rw [Option.some.inj h1]
    exact h2
end
end Go.Qk
