/- slices.Compact on a row of ids of the call's own: plain words, and the operations that it leans on. -/
import Derived.Test.YtffgifegaagndaaQSet1
import Derived.Test.YtffgifegaagndaaQRowR
set_option linter.unusedSimpArgs false
set_option linter.unusedVariables false
namespace Go.Proofs.Ytffgifegaagndaa
open Go.RowKit
open Go.Qk hiding rotr b4
set_option maxHeartbeats 1000000
set_option maxRecDepth 100000
def keepB (xs : List (List UInt8)) (i : Nat) : Bool := i == 0 || !(xs.getD i [] == xs.getD (i - 1) [])
def cmpUpTo (xs : List (List UInt8)) (m : Nat) : List (List UInt8) := ((List.range m).filter (keepB xs)).map fun i => xs.getD i []
def compactL (xs : List (List UInt8)) : List (List UInt8) := cmpUpTo xs xs.length
theorem cmpUpTo_succ (xs : List (List UInt8)) (m : Nat) : cmpUpTo xs (m + 1) = cmpUpTo xs m ++ (if keepB xs m then [xs.getD m []] else []) := by
  unfold cmpUpTo
  rw [List.range_succ, List.filter_append, List.map_append]
  congr 1
  cases h : keepB xs m <;> simp [h]
theorem cmpUpTo_all (xs : List (List UInt8)) : ∀ m, m ≤ xs.length → (∀ j, j < m → keepB xs j = true) → cmpUpTo xs m = xs.take m
  | 0, _, _ => by simp [cmpUpTo]
  | m + 1, hm, h => by
    rw [cmpUpTo_succ, cmpUpTo_all xs m (by omega) (fun j hj => h j (by omega)), if_pos (h m (by omega)), List.take_succ_eq_append_getElem (by omega)]
    simp [show m < xs.length by omega]
theorem cmpUpTo_32 (xs : List (List UInt8)) (h : ∀ s ∈ xs, s.length = 32) (m : Nat) (hm : m ≤ xs.length) : ∀ s ∈ cmpUpTo xs m, s.length = 32 := by
  intro s hs
  obtain ⟨i, hi, rfl⟩ := List.mem_map.1 hs
  have := (List.mem_filter.1 hi).1
  have := List.mem_range.1 this
  exact getD_mem_len h (by omega)
theorem cmpUpTo_length (xs : List (List UInt8)) (m : Nat) : (cmpUpTo xs m).length ≤ m := by
  unfold cmpUpTo
  rw [List.length_map]
  have := List.length_filter_le (keepB xs) (List.range m)
  simpa using this
theorem compactL_small (xs : List (List UInt8)) (h : xs.length < 2) : compactL xs = xs := by
  match xs, h with
  | [], _ => rfl
  | [x], _ => rfl
theorem drop_getD {α : Type} {xs ys : List α} {p q : Nat} (d : α) (h : ys.drop p = xs.drop p) (hq : p ≤ q) : ys.getD q d = xs.getD q d := by
  have e1 : ys.getD q d = (ys.drop p).getD (q - p) d := by simp [List.getElem?_drop, show p + (q - p) = q by omega]
  have e2 : xs.getD q d = (xs.drop p).getD (q - p) d := by simp [List.getElem?_drop, show p + (q - p) = q by omega]
  rw [e1, e2, h]
theorem drop_set_lt {α : Type} (ys : List α) (k p : Nat) (x : α) (h : k < p) : (ys.set k x).drop p = ys.drop p := by
  apply List.ext_getElem?
  intro i
  simp only [List.getElem?_drop]
  rw [List.getElem?_set_ne (by omega)]
theorem take_set_at {α : Type} (ys : List α) (k : Nat) (x : α) (h : k < ys.length) : (ys.set k x).take (k + 1) = ys.take k ++ [x] := by
  have e : (ys.set k x).take k = ys.take k := by
    apply List.ext_getElem?
    intro i
    by_cases hi : i < k
    · rw [List.getElem?_take_of_lt hi, List.getElem?_take_of_lt hi, List.getElem?_set_ne (by omega)]
    · rw [List.getElem?_take_eq_none (by omega), List.getElem?_take_eq_none (by omega)]
  rw [List.take_succ_eq_append_getElem (by simpa using h), e]
  simp
/-- A row in a block, amid a call. -/
structure StR (B : Nat) (w0 : World) (g : Nat) (ys : List (List UInt8)) (tl : List Value) (w : World) : Prop where
  bel : Below B w0 w
  sz : B ≤ w.heap.size
  blk : w.heap[g]? = some (.cells (idCells ys ++ tl).toArray 23 (0, 0))
section
variable {B g : Nat} {w0 w w1 : World} {ys : List (List UInt8)} {tl : List Value}
theorem StR.grow (h : StR B w0 g ys tl w) (hg : Grow w w1) : StR B w0 g ys tl w1 := ⟨h.bel.trans (hg.mono h.sz), Nat.le_trans h.sz hg.size, grow_block h.blk hg⟩
theorem StR.row {ad : Addr} (h : StR B w0 g ys tl w) (had : ad = ⟨g, 0, none⟩) (h32 : ∀ s ∈ ys, s.length = 32) (hl : ys.length ≤ 1000000) : IdRow w (some ad) ys := by
  refine cells_idRow h32 (by omega) (fun j u hj => ?_)
  have hlt : j < (idCells ys).length := (List.getElem?_eq_some_iff.1 hj).1
  have e : ad.add j = ⟨g, j, none⟩ := by subst had; unfold Addr.add; split <;> simp_all
  rw [e]
  simp only [World.cell?, h.blk, Option.isSome_none, Bool.false_eq_true, if_false]
  simp only [List.getElem?_toArray]
  rw [List.getElem?_append_left hlt]
  exact hj
end
section
variable {ops : Array Oper} {Q : Exit → Act → World → Prop} {rest : List Oper} {o : Oper} {a : Act} {w w0 : World} {B g : Nat} {ys : List (List UInt8)} {tl : List Value}
theorem op_storeSt {x y : Operand} {ad : Addr} (i : Nat) (l : List UInt8) (hgd : o.guard = none) (hdst : o.dst = none) (ho : o.op = .store 23 x y) (hx : a.eval x = .pointer (some (ad.add (i * 32)))) (had : ad = ⟨g, 0, none⟩) (hy : a.eval y = idV l) (hl : l.length = 32)
    (hs : StR B w0 g ys tl w) (hB : B ≤ g) (h32 : ∀ s ∈ ys, s.length = 32) (hi : i < ys.length) (h : ∀ W, StR B w0 g (ys.set i l) tl W → wpList Try.prog ops Q rest a W) : wpList Try.prog ops Q (o :: rest) a w := by
  have hlen := idCells_length ys h32
  have e : ad.add (i * 32) = ⟨g, i * 32, none⟩ := by subst had; unfold Addr.add; split <;> simp_all
  refine store_block 23 x y g (i * 32) (u8s l) (idCells ys ++ tl) (idCells (ys.set i l) ++ tl) 23 hgd hdst ho (by rw [hx, e]) hy hs.blk (szIdL hl) (by rw [List.length_append, u8s_length, hlen]; omega) (u8s_one _) ?_ ?_
  · rw [← idCells_set ys h32 i l hi hl, List.take_append_of_le_length (by omega), List.drop_append_of_le_length (by rw [u8s_length, hlen]; omega)]
    simp
  · intro W h1 h2 h3
    exact h W ⟨h3 _ _ hs.bel hB, Nat.le_trans hs.sz h2.size, h1⟩
theorem zeroId (w : World) : (zeroValue 23).run Try.prog w = .ok (idV (zero8 32)) w := by kernel_rfl
theorem zeroCells_len (m : Nat) : (Builtin.zeroCells (idV (zero8 32)).cells m).toList.length = m * 32 := by
  simp [Builtin.zeroCells, idV_cells, u8s_length, zero8]
theorem zeroCells_one (m : Nat) : ∀ v ∈ (Builtin.zeroCells (idV (zero8 32)).cells m).toList, v.oneCell' = true := by
  intro v hv
  have hs : (idV (zero8 32)).cells.size = 32 := by simp [idV_cells, u8s_length, zero8]
  simp only [Builtin.zeroCells, Array.toList_map, List.mem_map] at hv
  obtain ⟨i, _, rfl⟩ := hv
  rw [hs]
  have hlt : i % 32 < (idV (zero8 32)).cells.size := by rw [hs]; exact Nat.mod_lt _ (by omega)
  rw [getElem!_pos (idV (zero8 32)).cells (i % 32) hlt]
  have hm : (idV (zero8 32)).cells[i % 32] ∈ u8s (zero8 32) := by
    have h1 : (idV (zero8 32)).cells = (u8s (zero8 32)).toArray := idV_cells _
    have h2 : (idV (zero8 32)).cells[i % 32] ∈ (idV (zero8 32)).cells := Array.getElem_mem _
    generalize (idV (zero8 32)).cells[i % 32] = x at h2 ⊢
    rw [h1] at h2
    simpa using h2
  exact u8s_one _ _ hm
theorem run_clearIds {g off m c : Nat} {cur : List Value} (hg : w.heap[g]? = some (.cells cur.toArray 23 (0, 0))) (hfit : off + m * 32 ≤ cur.length) (hm : 0 < m) (ty : TypeId) :
    (Builtin.clear_ #[24] ty #[.slice (some ⟨g, off, none⟩) m c]).run Try.prog w = .ok (.tuple #[]) (w.setRow g (cur.take off ++ (Builtin.zeroCells (idV (zero8 32)).cells m).toList ++ cur.drop (off + m * 32)).toArray) := by
  have hst := run_storeCells_at (P := Try.prog) g off 23 (Builtin.zeroCells (idV (zero8 32)).cells m).toList 0 cur.toArray w hg (by rw [zeroCells_len]; simpa using hfit) (zeroCells_one m)
  rw [zeroCells_len] at hst
  simp only [Nat.add_zero] at hst
  have hz := zeroId
  generalize idV (zero8 32) = z at hst hz ⊢
  obtain ⟨k, rfl⟩ : ∃ k, m = k + 1 := ⟨m - 1, by omega⟩
  simp only [List.append_assoc] at hst
  simp [Builtin.clear_, run_underlying Try.underlying24, hz, hst]
theorem op_clearIds {x : Operand} {ad : Addr} {off m c : Nat} {cur : List Value} (hgd : o.guard = none) (hdst : o.dst = none) (ho : o.op = .call { callee := .builtin .clear, args := #[x], argTypes := #[24] }) (hx : a.eval x = .slice (some ad) m c) (had : ad = ⟨g, off, none⟩)
    (hg : w.heap[g]? = some (.cells cur.toArray 23 (0, 0))) (hfit : off + m * 32 ≤ cur.length) (hm : 0 < m)
    (h : ∀ W zs, zs.length = m * 32 → W.heap[g]? = some (.cells (cur.take off ++ zs ++ cur.drop (off + m * 32)).toArray 23 (0, 0)) → w.grownBy W (some g) → (∀ B w0, Below B w0 w → B ≤ g → Below B w0 W) → wpList Try.prog ops Q rest a W) : wpList Try.prog ops Q (o :: rest) a w := by
  have h2 := h (w.setRow g (cur.take off ++ (Builtin.zeroCells (idV (zero8 32)).cells m).toList ++ cur.drop (off + m * 32)).toArray) _ (zeroCells_len m) (heap_setRow_same hg) (grownBy_setRow _ _ _) (fun B w0 hb hB => below_setRow' hb hB _)
  refine wpList_val (v := .tuple #[]) (w' := w.setRow g (cur.take off ++ (Builtin.zeroCells (idV (zero8 32)).cells m).toList ++ cur.drop (off + m * 32)).toArray) hgd ?_ (by rw [hdst]; exact h2)
  unfold execOp
  simp only [ho, resolve, invoke, builtin, Sem.run_bind, Sem.run_pure, Result.andThen_ok, List.map_toArray, List.map_cons, List.map_nil, hx, had, run_clearIds hg hfit hm]
end
end Go.Proofs.Ytffgifegaagndaa
