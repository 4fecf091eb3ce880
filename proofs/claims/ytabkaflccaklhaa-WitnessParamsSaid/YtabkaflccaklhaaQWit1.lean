/- Rows of leaves and sums (witness.Row): how they lie, and how they are read. -/
import Derived.Test.YtabkaflccaklhaaQWitP
import Derived.Test.YtabkaflccaklhaaQFr
set_option linter.unusedSimpArgs false
set_option linter.unusedVariables false
namespace Go.Proofs.Ytabkaflccaklhaa
open Go.RowKit
open Go.Qk hiding rotr b4
set_option maxHeartbeats 1000000
set_option maxRecDepth 100000
def wr0 : WRow := (0, zero8 32)
def wrCells (x : WRow) : List Value := .int .i64 x.1 :: u8s x.2
def wrV (x : WRow) : Value := .agg (wrCells x).toArray
theorem wrCells_length {x : WRow} (h : x.2.length = 32) : (wrCells x).length = 33 := by simp [wrCells, u8s_length, h]
def WrRow (w : World) (A : Option Addr) (fs : List WRow) : Prop := fs.length ≤ 9223372036854775807 ∧ (fs ≠ [] → ∃ ad, A = some ad ∧ ∀ i, i < fs.length → ∀ j v, (wrCells (fs.getD i wr0))[j]? = some v → w.cell? ((ad.add (i * 33)).add j) = some v)
theorem WrRow.grow {w w1 : World} {A : Option Addr} {fs : List WRow} (h : WrRow w A fs) (hg : Grow w w1) : WrRow w1 A fs :=
  ⟨h.1, fun hne => by obtain ⟨ad, e, hc⟩ := h.2 hne; exact ⟨ad, e, fun i hi j v hj => grow_cell (hc i hi j v hj) hg⟩⟩
theorem WrRow.at_ {w : World} {A : Option Addr} {fs : List WRow} (h : WrRow w A fs) (i : Nat) (hi : i < fs.length) : ∃ ad, A = some ad ∧ ∀ j v, (wrCells (fs.getD i wr0))[j]? = some v → w.cell? ((ad.add (i * 33)).add j) = some v := by
  obtain ⟨ad, e, hc⟩ := h.2 (by intro e; subst e; simp at hi)
  exact ⟨ad, e, hc i hi⟩
theorem wrRow_nil (w : World) : WrRow w none [] := ⟨by simp, fun h => absurd rfl h⟩
theorem oneWr (x : WRow) : ∀ v ∈ wrCells x, v.oneCell' = true := by
  intro v hv
  rcases List.mem_cons.1 hv with rfl | h
  · rfl
  · exact u8s_one _ _ h
theorem infoWRow0 : (Try.prog.info? 258).map (·.size) = some 33 := by kernel_rfl
theorem infoWRow {x : WRow} (h : x.2.length = 32) : (Try.prog.info? 258).map (·.size) = some (wrCells x).length := by rw [wrCells_length h]; exact infoWRow0
theorem wr_mem {fs : List WRow} {i : Nat} (h : i < fs.length) : fs.getD i wr0 ∈ fs := by simp [h]
end Go.Proofs.Ytabkaflccaklhaa
