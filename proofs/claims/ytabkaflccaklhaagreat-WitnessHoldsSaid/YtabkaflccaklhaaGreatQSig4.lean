/- signer.Signer's Sign: contracts. -/
import Derived.Test.YtabkaflccaklhaaGreatQSig1
set_option linter.unusedSimpArgs false
set_option linter.unusedVariables false
namespace Go.Proofs.YtabkaflccaklhaaGreat
open Go.RowKit
open Go.Qk hiding rotr b4
set_option maxHeartbeats 1000000
set_option maxRecDepth 100000
theorem grownBy_new {a b c : World} {row : Option Nat} {k : Nat} (h : a.grownBy b row) (hg : b.grownBy c (some k)) (hk : a.heap.size ≤ k) : a.grownBy c row :=
  ⟨hg.os.trans h.os, hg.tape.trans h.tape, hg.output.trans h.output, Nat.le_trans h.size hg.size, fun i hi hr => by
    rw [hg.block i (Nat.lt_of_lt_of_le hi h.size) (by intro e; injection e with e; omega)]
    exact h.block i hi hr⟩
def sigC (leaf : Int) (v1 v2 v3 : Value) : Array Value := #[.int .i64 leaf, v1, v2, v3]
def nilSig : Array Value := #[.int .i64 0, .slice none 0 0, .slice none 0 0, .slice none 0 0]
theorem nilSig_one : ∀ v ∈ nilSig.toList, v.oneCell' = true := by
  intro v hv
  simp [nilSig] at hv
  rcases hv with rfl | rfl <;> rfl
theorem sigNew_one (x : Int) : ∀ v ∈ (sigC x (.slice none 0 0) (.slice none 0 0) (.slice none 0 0)).toList, v.oneCell' = true := by
  intro v hv
  simp [sigC] at hv
  rcases hv with rfl | rfl <;> rfl
theorem infoSig : (Tryz.prog.info? 58).map (·.size) = some 4 := by kernel_rfl
theorem ret_sig {fn : Func} {p u : Tmp} {tmps : Array Value} {w : World} {g : Nat} {cs : Array Value} {t : TypeId} {fr : Nat × Nat} (h : fn.results = #[.cell p 58, .tmp u]) (hp : tmps.getD p undef = .pointer (some ⟨g, 0, none⟩)) (hg : w.heap[g]? = some (.cells cs t fr)) (hl : cs.size = 4) :
    (results fn tmps).run Tryz.prog w = .ok (.tuple #[.agg cs, tmps.getD u undef]) w :=
  results_row_tmp h _ _ g _ _ fr _ hp hg Tryz.underlying58 rfl (by rw [infoSig, hl])
def RetSigned (g : Nat) (B : Nat) (leaf : Int) (xs ys zs : List IdK) (P : World → Prop) (w : World) (e : Ending) (w' : World) : Prop :=
  ∃ v1 v2 v3, e = .returned (.tuple #[.agg (sigC leaf v1 v2 v3), .int .i64 0]) ∧ OwnIds 42 B w' v1 xs ∧ OwnIds 42 B w' v2 ys ∧ OwnIds 42 B w' v3 zs ∧ P w' ∧ w.grownBy w' (some g)
theorem own_keep {B g : Nat} {w w' : World} {v : Value} {xs : List IdK} (h : OwnIds 42 B w v xs) (hg : w.grownBy w' (some g)) (hlt : g < B) : OwnIds 42 B w' v xs :=
  own_store h hg (fun e => by have := (h.1.lt g e).1; omega)
end Go.Proofs.YtabkaflccaklhaaGreat
