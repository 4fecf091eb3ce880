/- diff.table's block of rows: what it is, read and written; the loop that makes it. -/
import Derived.Test.YtkbapegohodcgaaQDif3
import Derived.Test.YtkbapegohodcgaaQDifP
import Derived.Test.YtkbapegohodcgaaQChn
import Derived.Test.YtkbapegohodcgaaQDis1
set_option linter.unusedSimpArgs false
set_option linter.unusedVariables false
namespace Go.Proofs.Ytkbapegohodcgaa
open Go.RowKit
open Go.Qk hiding rotr b4
set_option maxHeartbeats 1000000
set_option maxRecDepth 100000
def ptrRow (g m : Nat) : Value := .slice (some ⟨g, 0, none⟩) m m
def rowV (V : Nat → Nat) (m : Nat) : List Value := (List.range m).map fun b => .int .i64 (V b : Int)
structure TabAt (w : World) (o : Nat) (r : Nat → Nat) (n m : Nat) (V : Nat → Nat → Nat) : Prop where
  out : w.heap[o]? = some (.cells ((List.range n).map (fun a => ptrRow (r a) m)).toArray 73 (0, 0))
  row : ∀ a, a < n → w.heap[r a]? = some (.cells (rowV (V a) m).toArray 3 (0, 0))
  ne : ∀ a, a < n → r a ≠ o
  inj : ∀ a b, a < n → b < n → r a = r b → a = b
theorem TabAt.grow {w w1 : World} {o : Nat} {r : Nat → Nat} {n m : Nat} {V : Nat → Nat → Nat} (h : TabAt w o r n m V) (hg : Grow w w1) : TabAt w1 o r n m V :=
  ⟨grow_block h.out hg, fun a ha => grow_block (h.row a ha) hg, h.ne, h.inj⟩
theorem TabAt.cellRow {w : World} {o : Nat} {r : Nat → Nat} {n m : Nat} {V : Nat → Nat → Nat} (h : TabAt w o r n m V) {a : Nat} (ha : a < n) : w.cell? ⟨o, a, none⟩ = some (ptrRow (r a) m) := blk_cell h.out (by simp [ha])
theorem TabAt.cellVal {w : World} {o : Nat} {r : Nat → Nat} {n m : Nat} {V : Nat → Nat → Nat} (h : TabAt w o r n m V) {a b : Nat} (ha : a < n) (hb : b < m) : w.cell? ⟨r a, b, none⟩ = some (.int .i64 (V a b : Int)) := blk_cell (h.row a ha) (by simp [rowV, hb])
theorem rowV_set (V : Nat → Nat) (m b v : Nat) : ((rowV V m).toArray.setIfInBounds b (.int .i64 (v : Int))) = (rowV (fun y => if y = b then v else V y) m).toArray := by
  apply Array.ext'
  rw [Array.toList_setIfInBounds]
  show (rowV V m).set b _ = rowV _ m
  apply List.ext_getElem (by simp [rowV])
  intro i h1 h2
  rw [List.getElem_set]
  simp only [rowV, List.getElem_map, List.getElem_range]
  by_cases e : b = i
  · subst e; simp
  · rw [if_neg e, if_neg (fun e2 => e e2.symm)]
theorem TabAt.set {w W : World} {o : Nat} {r : Nat → Nat} {n m : Nat} {V : Nat → Nat → Nat} (h : TabAt w o r n m V) {a b v : Nat} (ha : a < n) (hW : W.heap[r a]? = some (.cells ((rowV (V a) m).toArray.setIfInBounds b (.int .i64 (v : Int))) 3 (0, 0))) (hg : w.grownBy W (some (r a))) :
    TabAt W o r n m (fun x y => if x = a ∧ y = b then v else V x y) := by
  refine ⟨blk_other' hg h.out (fun e => h.ne a ha (Option.some.inj e)), fun x hx => ?_, h.ne, h.inj⟩
  by_cases e : x = a
  · subst e
    rw [hW, rowV_set]
    simp
  · rw [blk_other' hg (h.row x hx) (fun e2 => e (h.inj x a hx ha (Option.some.inj e2).symm))]
    simp [e]
theorem TabAt.congr {w : World} {o : Nat} {r : Nat → Nat} {n m : Nat} {V U : Nat → Nat → Nat} (h : TabAt w o r n m V) (e : ∀ a b, a < n → b < m → V a b = U a b) : TabAt w o r n m U := by
  refine ⟨h.out, fun a ha => ?_, h.ne, h.inj⟩
  rw [h.row a ha]
  have : rowV (V a) m = rowV (U a) m := List.map_congr_left fun b hb => by rw [e a b ha (by simpa using hb)]
  rw [this]
/-- While the rows are made: k of them are there. -/
structure TabMk (w0 w : World) (o : Nat) (r : Nat → Nat) (n m k : Nat) : Prop where
  out : w.heap[o]? = some (.cells ((List.range n).map (fun a => if a < k then ptrRow (r a) m else Value.slice none 0 0)).toArray 73 (0, 0))
  row : ∀ a, a < k → w.heap[r a]? = some (.cells (rowV (fun _ => 0) m).toArray 3 (0, 0))
  ne : ∀ a, a < k → r a ≠ o
  inj : ∀ a b, a < k → b < k → r a = r b → a = b
  low : w0.heap.size ≤ o
  lows : ∀ a, a < k → w0.heap.size ≤ r a
  bel : Below w0.heap.size w0 w
theorem rowV_zero (m : Nat) : (List.replicate m [Value.int .i64 0]).flatten = rowV (fun _ => 0) m := by
  unfold rowV
  induction m with
  | zero => rfl
  | succ m ih => rw [List.replicate_succ', List.flatten_append, ih, List.range_succ, List.map_append]; rfl
theorem tabOut_zero (r : Nat → Nat) (n m : Nat) : (List.replicate n [Value.slice none 0 0]).flatten = (List.range n).map (fun a => if a < 0 then ptrRow (r a) m else Value.slice none 0 0) := by
  induction n with
  | zero => rfl
  | succ n ih => rw [List.replicate_succ', List.flatten_append, ih, List.range_succ, List.map_append]; simp
theorem TabMk.step {w0 w w1 W : World} {o g : Nat} {r : Nat → Nat} {n m k : Nat} (h : TabMk w0 w o r n m k) (hk : k < n) (hg : Grow w w1) (hgl : w.heap.size ≤ g) (hgb : w1.heap[g]? = some (.cells (rowV (fun _ => 0) m).toArray 3 (0, 0)))
    (hW : W.heap[o]? = some (.cells (((List.range n).map (fun a => if a < k then ptrRow (r a) m else Value.slice none 0 0)).toArray.setIfInBounds k (ptrRow g m)) 73 (0, 0))) (hgr : w1.grownBy W (some o)) (hbel : ∀ B w0, Below B w0 w1 → B ≤ o → Below B w0 W) :
    TabMk w0 W o (fun a => if a = k then g else r a) n m (k + 1) := by
  have ho := blk_lt h.out
  have hge : ∀ a, a < k → r a < g := fun a ha => Nat.lt_of_lt_of_le (blk_lt (h.row a ha)) hgl
  have hs : w0.heap.size ≤ g := Nat.le_trans (Nat.le_of_lt (Nat.lt_of_le_of_lt h.low ho)) hgl
  refine ⟨?_, fun a ha => ?_, fun a ha => ?_, fun a b ha hb => ?_, h.low, fun a ha => ?_, hbel _ _ (h.bel.trans (hg.mono h.bel.size)) h.low⟩
  · rw [hW]
    congr 2
    apply Array.ext'
    rw [Array.toList_setIfInBounds]
    apply List.ext_getElem (by simp)
    intro i h1 h2
    rw [List.getElem_set]
    simp only [List.getElem_map, List.getElem_range]
    by_cases e : k = i
    · subst e; simp
    · rw [if_neg e]
      by_cases e2 : i < k
      · simp [e2, show i < k + 1 by omega, show ¬ i = k by omega]
      · simp [e2, show ¬ i < k + 1 by omega]
  · show W.heap[if a = k then g else r a]? = _
    by_cases e : a = k
    · rw [if_pos e]
      exact blk_other' hgr hgb (fun e2 => by have := Option.some.inj e2; omega)
    · rw [if_neg e]
      exact blk_other' hgr (grow_block (h.row a (by omega)) hg) (fun e2 => h.ne a (by omega) (Option.some.inj e2).symm)
  · show (if a = k then g else r a) ≠ o
    by_cases e : a = k
    · rw [if_pos e]; omega
    · rw [if_neg e]; exact h.ne a (by omega)
  · intro heq
    have heq : (if a = k then g else r a) = (if b = k then g else r b) := heq
    by_cases e : a = k <;> by_cases e2 : b = k
    · omega
    · rw [if_pos e, if_neg e2] at heq; have := hge b (by omega); omega
    · rw [if_neg e, if_pos e2] at heq; have := hge a (by omega); omega
    · rw [if_neg e, if_neg e2] at heq; exact h.inj a b (by omega) (by omega) heq
  · show w0.heap.size ≤ (if a = k then g else r a)
    by_cases e : a = k
    · rw [if_pos e]; exact hs
    · rw [if_neg e]; exact h.lows a (by omega)
theorem TabMk.done {w0 w : World} {o : Nat} {r : Nat → Nat} {n m : Nat} (h : TabMk w0 w o r n m n) : TabAt w o r n m (fun _ _ => 0) := by
  refine ⟨?_, h.row, h.ne, h.inj⟩
  rw [h.out]
  have : (List.range n).map (fun a => if a < n then ptrRow (r a) m else Value.slice none 0 0) = (List.range n).map (fun a => ptrRow (r a) m) := List.map_congr_left fun a ha => by
    have : a < n := by simpa using ha
    rw [if_pos this]
  rw [this]
end Go.Proofs.Ytkbapegohodcgaa
