/- Arguments opened: a row of witness rows, the leaves' kind known; a witness. -/
import Derived.Test.YtabkaflccaklhaaGreatQWit8
import Derived.Test.YtabkaflccaklhaaGreatQRowS
import Derived.SizedLaws
set_option linter.unusedSimpArgs false
set_option linter.unusedVariables false
namespace Go.Proofs.YtabkaflccaklhaaGreat
open Go.RowKit Go.ChangeShapes Go.WideShapes Go.ChangeAt Go.Deep Go.Joins
open Go.Qk hiding rotr b4
set_option maxHeartbeats 1000000
set_option maxRecDepth 100000
theorem open_wrsW {H : Type} {enc : TypeId × Value → H} {w : World} {base : Nat} {sp : Nat → Bool} {held : Bool} {fuel : Nat} {a : Option Addr} {len cap : Nat} {x : DataW H × List MemPlace}
    (h : DataW.trod enc Tryz.prog w base sp held fuel 52 (Value.slice a len cap).cells.toList = some x) : ∃ l : List WRow, WrRow w a l ∧ l.length = len ∧ (∀ x ∈ l, x.2.length = 32) ∧ (∀ x ∈ l, (Lit.int .i64 x.1).wf = true) ∧ (len = 0 ∨ ∃ el sp', x.1 = .slice el sp' ∧ el.length = len) := by
  rcases DataW.trod_slice Tryz.underlying52 h with ⟨h1, _⟩ | ⟨b, l, c, elems, rest, n, hX, hcs, hY, hZ, hl, hm, hlen, hel, hU⟩
  · simp [Value.cells] at h1
    obtain ⟨rfl, rfl, rfl⟩ := h1
    exact ⟨[], ⟨by simp, fun h => absurd rfl h⟩, rfl, (fun _ h => by cases h), (fun _ h => by cases h), .inl rfl⟩
  · simp [Value.cells] at hcs
    obtain ⟨rfl, rfl, rfl⟩ := hcs
    have hce : Tryz.prog.cellsOf 116 = 33 := by kernel_rfl
    have each : ∀ i, i < len → ∃ y : WRow, (y.2.length = 32 ∧ (Lit.int .i64 y.1).wf = true) ∧ (∀ j v, (wrCells y)[j]? = some v → w.cell? ((b.add (i * 33)).add j) = some v) := by
      intro i hi
      have hE := hel i hi
      rw [hce, List.getElem?_eq_getElem (by omega), Option.bind_eq_some_iff] at hE
      obtain ⟨cs, hcs, hy⟩ := hE
      obtain ⟨h2, h3, h4⟩ := World.cells?_some hcs
      obtain ⟨y0, y1, n', _, hl3, t0, t1⟩ := trod_struct2 Tryz.underlying116 hy
      match cs, h3 with
      | c0 :: cr, h3 =>
        have t0' : DataW.trod enc Tryz.prog w base sp held n' 3 [c0] = some y0 := t0
        have hcr : cr.length = 32 := by simpa using h3
        have t1' : DataW.trod enc Tryz.prog w base sp held n' 42 cr = some y1 := by
          have e : ((c0 :: cr).drop 1).take 32 = cr := by rw [List.drop_succ_cons, List.drop_zero, List.take_of_length_le (by omega)]
          rw [← e]
          exact t1
        obtain ⟨p, e0, _, w0⟩ := DataW.trod_int Tryz.underlying3 t0'
        injection e0 with e0
        subst e0
        obtain ⟨s, rfl, hs32, _⟩ := trod_id Tryz.underlying42 Tryz.underlying5 (by kernel_rfl) hcr t1'
        refine ⟨(p, s), ⟨hs32, w0⟩, fun j v hv => ?_⟩
        have hj : j < 33 := by have := (List.getElem?_eq_some_iff.1 hv).1; rw [wrCells_length (x := (p, s)) hs32] at this; exact this
        rw [h4 j hj]
        exact hv
    have ch : ∃ f : Nat → WRow, ∀ i, i < len → ((f i).2.length = 32 ∧ (Lit.int .i64 (f i).1).wf = true) ∧ (∀ j v, (wrCells (f i))[j]? = some v → w.cell? ((b.add (i * 33)).add j) = some v) := by
      refine ⟨fun i => if h : i < len then (each i h).choose else wr0, fun i hi => ?_⟩
      simp only [dif_pos hi]
      exact (each i hi).choose_spec
    obtain ⟨f, hf⟩ := ch
    unfold maxLen at hm
    refine ⟨(List.range len).map f, ⟨by simp; omega, fun _ => ⟨b, rfl, fun i hi => ?_⟩⟩, by simp, fun x hx => ?_, fun x hx => ?_, ?_⟩
    · have hi' : i < len := by simpa using hi
      have e1 : ((List.range len).map f).getD i wr0 = f i := by simp [hi']
      rw [e1]
      exact (hf i hi').2
    · obtain ⟨i, hi, rfl⟩ := List.mem_map.1 hx
      exact (hf i (List.mem_range.1 hi)).1.1
    · obtain ⟨i, hi, rfl⟩ := List.mem_map.1 hx
      exact (hf i (List.mem_range.1 hi)).1.2
    · exact .inr ⟨_, _, by rw [hY], by simp [hlen]⟩
theorem open_wit {H : Type} {enc : TypeId × Value → H} {w : World} {base : Nat} {sp : Nat → Bool} {held : Bool} {r : Reach} {b0 : Nat} {v : Value} {d : DataW H} {p : List MemPlace} (hv : Value.okWide Tryz.prog w r b0 61 v) (h : DataW.Trod enc Tryz.prog w base sp held 61 v d p) :
    ∃ (k : Int) (sa sc : List UInt8) (leaf bit side : Int) (x : IdK), v = .agg (witC k sa sc leaf bit side x).toArray ∧ x.length = 32 ∧ (Lit.int .i64 leaf).wf = true := by
  obtain ⟨cs, rfl, hsz⟩ := okWide_struct Tryz.underlying61 hv
  have hce : Tryz.prog.cellsOf 61 = 38 := by kernel_rfl
  have hcl : cs.toList.length = 38 := by rw [Array.length_toList, hsz, hce]
  obtain ⟨fuel, hf⟩ := h
  obtain ⟨xs, n, _, _, _, hlen, hf⟩ := DataW.trod_struct Tryz.underlying61 hf
  obtain ⟨cl⟩ := cs
  match cl, hcl, xs, hlen with
  | c0 :: c1 :: c2 :: c3 :: c4 :: c5 :: cr, hcl, [y0, y1, y2, y3, y4, y5, y6], _ =>
    have hcr : cr.length = 32 := by simpa using hcl
    have t0 : DataW.trod enc Tryz.prog w base sp held n 3 [c0] = some y0 := hf 0 _ rfl
    have t1 : DataW.trod enc Tryz.prog w base sp held n 9 [c1] = some y1 := hf 1 _ rfl
    have t2 : DataW.trod enc Tryz.prog w base sp held n 9 [c2] = some y2 := hf 2 _ rfl
    have t3 : DataW.trod enc Tryz.prog w base sp held n 3 [c3] = some y3 := hf 3 _ rfl
    have t4 : DataW.trod enc Tryz.prog w base sp held n 3 [c4] = some y4 := hf 4 _ rfl
    have t5 : DataW.trod enc Tryz.prog w base sp held n 3 [c5] = some y5 := hf 5 _ rfl
    have t6 : DataW.trod enc Tryz.prog w base sp held n 42 cr = some y6 := by
      have e : ((c0 :: c1 :: c2 :: c3 :: c4 :: c5 :: cr).drop 6).take 32 = cr := by
        show cr.take 32 = cr
        rw [List.take_of_length_le (by omega)]
      rw [← e]
      exact hf 6 _ rfl
    obtain ⟨k, e0, _, _⟩ := DataW.trod_int Tryz.underlying3 t0
    obtain ⟨sa, e1, _⟩ := DataW.trod_string Tryz.underlying9 t1
    obtain ⟨sc, e2, _⟩ := DataW.trod_string Tryz.underlying9 t2
    obtain ⟨lf, e3, _, w3⟩ := DataW.trod_int Tryz.underlying3 t3
    obtain ⟨bt, e4, _, _⟩ := DataW.trod_int Tryz.underlying3 t4
    obtain ⟨sd, e5, _, _⟩ := DataW.trod_int Tryz.underlying3 t5
    injection e0 with e0
    injection e1 with e1
    injection e2 with e2
    injection e3 with e3
    injection e4 with e4
    injection e5 with e5
    subst e0 e1 e2 e3 e4 e5
    obtain ⟨s, rfl, hs32, _⟩ := trod_id Tryz.underlying42 Tryz.underlying5 (by kernel_rfl) hcr t6
    refine ⟨k, bl sa, bl sc, lf, bt, sd, s, ?_, hs32, w3⟩
    unfold witC
    rw [bs_bl, bs_bl]
    rfl
end Go.Proofs.YtabkaflccaklhaaGreat
