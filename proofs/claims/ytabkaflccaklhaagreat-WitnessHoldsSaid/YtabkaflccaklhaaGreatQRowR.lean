/- Rows of rows of ids, of the call's own; blocks of ids that are written place by place. -/
import Derived.Test.YtabkaflccaklhaaGreatQLamp1
import Derived.Test.YtabkaflccaklhaaGreatQSet1
import Derived.Test.YtabkaflccaklhaaGreatQStr
import Derived.Maps.AppendAt
set_option linter.unusedSimpArgs false
set_option linter.unusedVariables false
namespace Go.Qk
open Go.RowKit
theorem own_types_ne {w : World} {B B' : Nat} {e e' : TypeId} {sz sz' n n' : Nat} {v v' : Value} {xs xs' : List Value} (h : w.ownsRow B e sz v n xs) (h' : w.ownsRow B' e' sz' v' n' xs') (hne : e ≠ e') (k : Nat) (hk : v.ownBlock = some k) : v'.ownBlock ≠ some k := by
  rcases h.2 with ⟨rfl, _⟩ | ⟨g, cap, cur, rfl, _, hg, _⟩
  · simp [Value.ownBlock] at hk
  · rcases h'.2 with ⟨rfl, _⟩ | ⟨g', cap', cur', rfl, _, hg', _⟩
    · simp [Value.ownBlock]
    · simp [Value.ownBlock] at hk ⊢
      intro e2
      rw [e2, ← hk, hg] at hg'
      injection hg' with h1
      injection h1 with _ h2
      exact hne h2
theorem own_kept {w w' : World} {B : Nat} {e : TypeId} {sz n : Nat} {v : Value} {xs : List Value} {row : Option Nat} (h : w.ownsRow B e sz v n xs) (hg : w.grownBy w' row) (hne : ∀ k, v.ownBlock = some k → row ≠ some k) : w'.ownsRow B e sz v n xs := by
  refine h.kept hg ?_
  cases hv : v.ownBlock with
  | none => exact .inl rfl
  | some k => exact .inr fun e => hne k hv (by rw [← e])
theorem blk_other {w w' : World} {g h : Nat} {Y : Obj} (hg : w.grownBy w' (some g)) (hh : w.heap[h]? = some Y) (hne : h ≠ g) : w'.heap[h]? = some Y := by
  rw [hg.block h (Array.getElem?_eq_some_iff.1 hh).1 (by intro e; injection e with e; exact hne e)]
  exact hh
theorem blk_lt {w : World} {g : Nat} {Y : Obj} (hh : w.heap[g]? = some Y) : g < w.heap.size := (Array.getElem?_eq_some_iff.1 hh).1
section
variable {P : Program} {ops : Array Oper} {Q : Exit → Act → World → Prop} {rest : List Oper} {o o2 : Oper} {a : Act} {w : World}
/-- []T{x}, T of one cell. -/
theorem op_row1V {T e : TypeId} {y : Operand} {z u : Value} {bytes : Nat} (hgd : o.guard = none) (ho : o.op = .buildSlice T 1 #[(0, y)]) (hy : a.eval y = u) (ht : P.underlying T = some (.slice e)) (hi : (P.info? e).map (fun i => (i.zero, i.size, i.bytes)) = some (some z, 1, bytes)) (hz : z.cells.size = 1)
    (hu : u.cells = #[u]) (h : ∀ v W, W.ownsRow w.heap.size e 1 v 1 [u] → Grow w W → w.heap.size < W.heap.size → wpList P ops Q rest (a.put o.dst v) W) : wpList P ops Q (o :: rest) a w := by
  have hr := run_buildSlice (P := P) w T e 1 1 bytes z ht hi hz (by omega) (by omega) (by omega) [u] [[u]] (by simp [hu]) (by simp) rfl
  have hp : #[(0, y)].map (fun (i, y) => (i, a.eval y)) = (([u].zipIdx 0).map Prod.swap).toArray := by simp [hy]
  refine wpList_val (v := .slice (some ⟨w.heap.size, 0, none⟩) 1 1) (w' := w.alloc (.cells [[u]].flatten.toArray e)) hgd ?_ (h _ _ ?_ (grow_alloc _ _) (by simp))
  · unfold execOp
    simp only [ho, hp, Sem.run_bind, Sem.run_pure, Result.andThen_ok, hr]
  · exact World.ownsRow_lit w _ 1 (Nat.le_refl _) (by decide) (by simp)
/-- append(out, x), x of one cell. -/
theorem op_app1V {T e : TypeId} {d : Tmp} {x y : Operand} {z v u : Value} {bytes n : Nat} {ys : List Value} {B : Nat} {w0 : World} (hgd : o.guard = none) (ho : o.op = .buildSlice T 1 #[(0, y)]) (hd : o.dst = some d)
    (hgd2 : o2.guard = none) (ho2 : o2.op = .call { callee := .builtin .append, args := #[x, .tmp d], argTypes := #[T, T] }) (hy : a.eval y = u) (ht : P.underlying T = some (.slice e)) (hi : (P.info? e).map (fun i => (i.zero, i.size, i.bytes)) = some (some z, 1, bytes)) (hz : z.cells.size = 1)
    (hx : ∀ u, (a.put o.dst u).eval x = v) (he : ∀ u, (a.put o.dst u).eval (.tmp d) = u) (hu : u.cells = #[u]) (h1 : u.oneCell' = true) (hown : w.ownsRow B e 1 v n ys) (hb : Below B w0 w) (hB : B ≤ w.heap.size) (hlen : (n + 1) * bytes ≤ 140737488355328) (hlen2 : n < 1000000000000)
    (h : ∀ s v' w', w'.ownsRow B e 1 v' (n + 1) (ys ++ [u]) → w.grownBy w' v.ownBlock → Below B w0 w' → B ≤ w'.heap.size → wpList P ops Q rest ((a.put o.dst s).put o2.dst v') w') : wpList P ops Q (o :: o2 :: rest) a w := by
  have hr := run_buildSlice (P := P) w T e 1 1 bytes z ht hi hz (by omega) (by omega) (by omega) [u] [[u]] (by simp [hu]) (by simp) rfl
  have hp : #[(0, y)].map (fun (i, y) => (i, a.eval y)) = (([u].zipIdx 0).map Prod.swap).toArray := by simp [hy]
  refine wpList_val (v := .slice (some ⟨w.heap.size, 0, none⟩) 1 1) (w' := w.alloc (.cells [[u]].flatten.toArray e)) hgd ?_ ?_
  · unfold execOp
    simp only [ho, hp, Sem.run_bind, Sem.run_pure, Result.andThen_ok, hr]
  · obtain ⟨i, i1, i2, i3, i4⟩ := info_parts hi
    refine wpList_append_own_at (P := P) _ hgd2 x (.tmp d) T ho2 B e i _ 1 bytes ht i1 i2 i3 i4 hz (by omega) v n ys (hx _) (World.ownsRow.alloc hown _) ⟨w.heap.size, 0, none⟩ 1 1 [u] (he _) rfl (fun j s hj => cells_new w _ _ j s (by simpa using hj)) (by simpa using h1) (by simp only [maxLen]; omega) hlen (by simp; omega) ?_
    intro v' w' q1 q2 _ q4
    have hbb := hb.alloc hB (.cells [[u]].flatten.toArray e)
    have hbel : Below B w0 w' := hbb.grown q2 (by simp; omega) (fun k hk => (hown.lt k hk).1)
    exact h _ v' w' q1 (grownBy_trans (grownBy_grow (grow_alloc w _) v.ownBlock) q2) hbel (Nat.le_trans hB (Nat.le_trans (by simp) q2.size))
end
end Go.Qk
namespace Go.Proofs.YtabkaflccaklhaaGreat
open Go.RowKit
open Go.Qk hiding rotr b4
set_option maxHeartbeats 1000000
set_option maxRecDepth 100000
theorem infoIds : (Tryz.prog.info? 56).map (fun i => (i.zero, i.size, i.bytes)) = some (some (.slice none 0 0), 1, 24) := by kernel_rfl
/-- A block of ids is a row of the call's own. -/
theorem blk_own {w : World} {B g n : Nat} {xs : List (List UInt8)} (hg : w.heap[g]? = some (.cells (idCells xs).toArray 42 (0, 0))) (hB : B ≤ g) (hn : xs.length = n) (h32 : ∀ s ∈ xs, s.length = 32) (hmax : n ≤ 1000000000) : OwnIds 42 B w (.slice (some ⟨g, 0, none⟩) n n) xs := by
  subst hn
  refine ⟨⟨idCells_length xs h32, .inr ⟨g, xs.length, (idCells xs).toArray, rfl, hB, hg, Nat.le_refl _, by simp only [maxLen]; omega, by simp [idCells_length xs h32], (by rw [← idCells_length xs h32]; simp)⟩⟩, h32⟩
theorem idCells_set (xs : List (List UInt8)) (h32 : ∀ s ∈ xs, s.length = 32) (i : Nat) (l : List UInt8) (hi : i < xs.length) (hl : l.length = 32) : (idCells xs).take (i * 32) ++ u8s l ++ (idCells xs).drop (i * 32 + (u8s l).length) = idCells (xs.set i l) := by
  have e1 : (idCells (xs.take i)).length = i * 32 := by
    rw [idCells_length _ (fun s hs => h32 s (List.mem_of_mem_take hs)), List.length_take, Nat.min_eq_left (by omega)]
  have e2 : (idCells (xs.take (i + 1))).length = (i + 1) * 32 := by
    rw [idCells_length _ (fun s hs => h32 s (List.mem_of_mem_take hs)), List.length_take, Nat.min_eq_left (by omega)]
  have p1 : idCells xs = idCells (xs.take i) ++ idCells (xs.drop i) := by rw [← idCells_append, List.take_append_drop]
  have p2 : idCells xs = idCells (xs.take (i + 1)) ++ idCells (xs.drop (i + 1)) := by rw [← idCells_append, List.take_append_drop]
  have q1 : (idCells xs).take (i * 32) = idCells (xs.take i) := by rw [p1, ← e1, List.take_left']; rfl
  have q2 : (idCells xs).drop (i * 32 + (u8s l).length) = idCells (xs.drop (i + 1)) := by
    rw [u8s_length, hl, show i * 32 + 32 = (i + 1) * 32 by omega, p2, ← e2, List.drop_left']
    rfl
  rw [q1, q2, List.set_eq_take_append_cons_drop, if_pos hi, idCells_append]
  simp [idCells]
/-- A row whose first places are filled. -/
def parRow (f : Nat → List UInt8) (n k : Nat) : List (List UInt8) := (List.range n).map fun i => if i < k then f i else zero8 32
theorem parRow_length (f : Nat → List UInt8) (n k : Nat) : (parRow f n k).length = n := by simp [parRow]
theorem parRow_32 (f : Nat → List UInt8) (hf : ∀ i, (f i).length = 32) (n k : Nat) : ∀ s ∈ parRow f n k, s.length = 32 := by
  intro s hs
  obtain ⟨i, _, rfl⟩ := List.mem_map.1 hs
  split
  · exact hf i
  · rfl
theorem parRow_set (f : Nat → List UInt8) (n k : Nat) (hk : k < n) : (parRow f n k).set k (f k) = parRow f n (k + 1) := by
  apply List.ext_getElem
  · simp [parRow]
  · intro i h1 h2
    rw [List.getElem_set]
    have hi : i < n := by simpa [parRow] using h2
    by_cases e : k = i
    · subst e
      simp [parRow]
    · simp only [e, if_false, parRow, List.getElem_map, List.getElem_range]
      by_cases h : i < k
      · rw [if_pos h, if_pos (by omega)]
      · rw [if_neg h, if_neg (by omega)]
theorem parRow_zero (f : Nat → List UInt8) (n : Nat) : parRow f n 0 = List.replicate n (zero8 32) := by
  apply List.ext_getElem
  · simp [parRow]
  · intro i h1 h2
    simp [parRow]
theorem parRow_all (f : Nat → List UInt8) (n : Nat) : parRow f n n = (List.range n).map f := by
  apply List.map_congr_left
  intro i hi
  rw [if_pos (List.mem_range.1 hi)]
theorem rep_cells (n : Nat) : (List.replicate n (u8s (zero8 32))).flatten = idCells (List.replicate n (zero8 32)) := by
  rw [idCells, List.flatMap_def, List.map_replicate]
section
variable {ops : Array Oper} {Q : Exit → Act → World → Prop} {rest : List Oper} {o o2 : Oper} {a : Act} {w : World}
/-- make([]api.Id, n). -/
theorem op_makeIdsN {x y : Operand} {n : Nat} (f : Nat → List UInt8) (hgd : o.guard = none) (ho : o.op = .makeSlice 56 x y) (hx : a.eval x = .int .i64 (n : Int)) (hy : a.eval y = .int .i64 (n : Int)) (hn : n ≤ 1000000)
    (h : ∀ g W, w.heap.size ≤ g → g < W.heap.size → Grow w W → W.heap[g]? = some (.cells (idCells (parRow f n 0)).toArray 42 (0, 0)) → wpList Tryz.prog ops Q rest (a.put o.dst (.slice (some ⟨g, 0, none⟩) n n)) W) : wpList Tryz.prog ops Q (o :: rest) a w := by
  refine op_makeN hgd ho hx hy Tryz.underlying56 infoId (cs := u8s (zero8 32)) rfl (by rw [u8s_length]; rfl) (by omega) (by omega) (by omega) ?_
  intro g W h1 h2 h3 h4
  rw [rep_cells, ← parRow_zero f] at h4
  exact h g W h1 h2 h3 h4
/-- l[i] = x. -/
theorem op_storeIds {x y : Operand} {g i : Nat} {ad : Addr} {xs : List (List UInt8)} {l : List UInt8} (hgd : o.guard = none) (hdst : o.dst = none) (ho : o.op = .store 42 x y) (hx : a.eval x = .pointer (some ad)) (had : ad = ⟨g, i * 32, none⟩) (hy : a.eval y = idV l) (hl : l.length = 32)
    (hg : w.heap[g]? = some (.cells (idCells xs).toArray 42 (0, 0))) (h32 : ∀ s ∈ xs, s.length = 32) (hi : i < xs.length)
    (h : ∀ W, W.heap[g]? = some (.cells (idCells (xs.set i l)).toArray 42 (0, 0)) → w.grownBy W (some g) → (∀ B w0, Below B w0 w → B ≤ g → Below B w0 W) → wpList Tryz.prog ops Q rest a W) : wpList Tryz.prog ops Q (o :: rest) a w :=
  store_block 42 x y g (i * 32) (u8s l) (idCells xs) (idCells (xs.set i l)) 42 hgd hdst ho (by rw [hx, had]) hy hg (szIdL hl) (by rw [u8s_length, idCells_length xs h32]; omega) (u8s_one _) (idCells_set xs h32 i l hi hl) h
end
theorem run_idsTo {ad : Addr} {n c k : Nat} (hk : k ≤ c) (w : World) : (Instr.sliceAt 56 (.slice (some ad) n c) none (some (.int .i64 (k : Int))) none).run Tryz.prog w = .ok (.slice (some ad) k c) w := by
  have h1 : (k : Int) ≤ (c : Int) := by omega
  have h2 : (0 : Int) ≤ (k : Int) := by omega
  go_simp
theorem run_idsFrom {ad : Addr} {n c k : Nat} (hk : k ≤ n) (hc : n ≤ c) (hkc : k < c) (w : World) : (Instr.sliceAt 56 (.slice (some ad) n c) (some (.int .i64 (k : Int))) none none).run Tryz.prog w = .ok (.slice (some (ad.add (k * 32))) (n - k) (c - k)) w := by
  have h1 : (k : Int) ≤ (n : Int) := by omega
  have h2 : (0 : Int) ≤ (k : Int) := by omega
  have h3 : (n : Int) ≤ (c : Int) := by omega
  have h4 : ¬ c = k := by omega
  go_simp
/-- A cell for an id, made in a drawn region. -/
def idNew (W : World) (v : Value) (w : World) : Prop := ∃ g, v = .pointer (some ⟨g, 0, none⟩) ∧ W.heap.size ≤ g ∧ g < w.heap.size ∧ w.heap[g]? = some (.cells (u8s (zero8 32)).toArray 42 (0, 0))
section
variable {ops : Array Oper} {W : World} {Qe : (Tmp → World → Prop) → Act → Prop}
theorem head_new {o : Oper} {r : List (Oper × (Value → World → Prop))} {E : Tmp → World → Prop} {a : Act} (hwant : Region.wanted o (yielded ops a.tmps) = true) (ho : o.op = .alloc 42)
    (h : ∀ g, Head Tryz.prog ops W Qe r (upE E o.dst (idNew W (.pointer (some ⟨g, 0, none⟩)))) (a.put o.dst (.pointer (some ⟨g, 0, none⟩)))) : Head Tryz.prog ops W Qe ((o, idNew W) :: r) E a := by
  refine head_abs (V := idNew W) hwant ?_ ?_ ?_
  · rintro v w1 w2 ⟨g, rfl, h1, h2, h3⟩ hg
    exact ⟨g, rfl, h1, Nat.lt_of_lt_of_le h2 hg.size, grow_block h3 hg⟩
  · intro w1 hw1 _
    refine does_val (v := .pointer (some ⟨w1.heap.size, 0, none⟩)) (w' := w1.alloc (.cells (u8s (zero8 32)).toArray 42)) ?_ ⟨grow_alloc _ _, _, rfl, hw1.size, by simp, heap_alloc_new _ _⟩
    unfold execOp
    simp only [ho, Sem.run_bind, Sem.run_pure, Result.andThen_ok, run_allocId]
  · rintro v ⟨_, g, rfl, _⟩
    exact h g
theorem new_at {E : Tmp → World → Prop} {t : Tmp} {g : Nat} {w : World} (h : upE E (some t) (idNew W (.pointer (some ⟨g, 0, none⟩))) t w) : W.heap.size ≤ g ∧ g < w.heap.size ∧ w.heap[g]? = some (.cells (u8s (zero8 32)).toArray 42 (0, 0)) := by
  unfold upE at h
  rw [if_pos rfl] at h
  obtain ⟨g', hg, h1, h2, h3⟩ := h
  injection hg with hg
  injection hg with hg
  injection hg with hg
  subst hg
  exact ⟨h1, h2, h3⟩
end
/-- A row of rows, of the call's own. -/
def OwnRows (B : Nat) (w : World) (v : Value) (rows : List (List (List UInt8))) : Prop :=
  ∃ vs : List Value, vs.length = rows.length ∧ w.ownsRow B 56 1 v rows.length vs ∧ ∀ i, i < rows.length → OwnIds 42 B w (vs.getD i undef) (rows.getD i [])
theorem OwnRows.grow {B : Nat} {w w' : World} {v : Value} {rows : List (List (List UInt8))} (h : OwnRows B w v rows) (hg : Grow w w') : OwnRows B w' v rows := by
  obtain ⟨vs, h1, h2, h3⟩ := h
  exact ⟨vs, h1, own_grow h2 hg, fun i hi => (h3 i hi).grow hg⟩
theorem OwnRows.base {B C : Nat} {w : World} {v : Value} {rows : List (List (List UInt8))} (h : OwnRows B w v rows) (hc : C ≤ B) : OwnRows C w v rows := by
  obtain ⟨vs, h1, h2, h3⟩ := h
  refine ⟨vs, h1, ⟨h2.1, ?_⟩, fun i hi => (h3 i hi).base hc⟩
  rcases h2.2 with h4 | ⟨g, cap, cur, e, h5, h6⟩
  · exact .inl h4
  · exact .inr ⟨g, cap, cur, e, Nat.le_trans hc h5, h6⟩
theorem OwnRows.store {B g : Nat} {w w' : World} {v : Value} {rows : List (List (List UInt8))} (h : OwnRows B w v rows) (hg : w.grownBy w' (some g)) (hlt : g < B) : OwnRows B w' v rows := by
  obtain ⟨vs, h1, h2, h3⟩ := h
  refine ⟨vs, h1, own_kept h2 hg fun k hk e => ?_, fun i hi => ⟨own_kept (h3 i hi).1 hg fun k hk e => ?_, (h3 i hi).2⟩⟩
  · have := (h2.lt k hk).1
    injection e with e
    omega
  · have := ((h3 i hi).1.lt k hk).1
    injection e with e
    omega
theorem OwnRows.app {B : Nat} {w w' : World} {v v' u : Value} {rows : List (List (List UInt8))} {row : List (List UInt8)} (hu : OwnIds 42 B w u row) (vs : List Value) (h1 : vs.length = rows.length) (h2 : w.ownsRow B 56 1 v rows.length vs) (h3 : ∀ i, i < rows.length → OwnIds 42 B w (vs.getD i undef) (rows.getD i []))
    (hv : w'.ownsRow B 56 1 v' (rows.length + 1) (vs ++ [u])) (hg : w.grownBy w' v.ownBlock) : OwnRows B w' v' (rows ++ [row]) := by
  have keep : ∀ (x : Value) (ys : List (List UInt8)), OwnIds 42 B w x ys → OwnIds 42 B w' x ys := fun x ys h => ⟨own_kept h.1 hg fun k hk e => own_types_ne h.1 h2 (by decide) k hk e, h.2⟩
  refine ⟨vs ++ [u], by simp [h1], by simpa using hv, fun i hi => ?_⟩
  by_cases e : i < rows.length
  · have e1 : (vs ++ [u]).getD i undef = vs.getD i undef := by simp [List.getD_eq_getElem?_getD, List.getElem?_append_left (show i < vs.length by omega)]
    have e2 : (rows ++ [row]).getD i [] = rows.getD i [] := by simp [List.getD_eq_getElem?_getD, List.getElem?_append_left e]
    rw [e1, e2]
    exact keep _ _ (h3 i e)
  · obtain rfl : i = rows.length := by simp at hi; omega
    have e1 : (vs ++ [u]).getD rows.length undef = u := by rw [← h1]; simp
    have e2 : (rows ++ [row]).getD rows.length [] = row := by simp
    rw [e1, e2]
    exact keep _ _ hu
/-- A slice of rows that is read. -/
def RowsSl (w : World) (A : Option Addr) (rows : List (List (List UInt8))) : Prop :=
  rows.length ≤ 9223372036854775807 ∧ (rows ≠ [] → ∃ ad, A = some ad ∧ ∀ i, i < rows.length → ∃ A' c, w.cell? (ad.add i) = some (.slice A' (rows.getD i []).length c) ∧ IdRow w A' (rows.getD i []))
theorem RowsSl.grow {w w' : World} {A : Option Addr} {rows : List (List (List UInt8))} (h : RowsSl w A rows) (hg : Grow w w') : RowsSl w' A rows :=
  ⟨h.1, fun hne => by
    obtain ⟨ad, e, hc⟩ := h.2 hne
    refine ⟨ad, e, fun i hi => ?_⟩
    obtain ⟨A', c, h1, h2⟩ := hc i hi
    exact ⟨A', c, grow_cell h1 hg, h2.grow hg⟩⟩
theorem RowsSl.at_ {w : World} {A : Option Addr} {rows : List (List (List UInt8))} (h : RowsSl w A rows) (i : Nat) (hi : i < rows.length) : ∃ ad, A = some ad ∧ ∃ A' c, w.cell? (ad.add i) = some (.slice A' (rows.getD i []).length c) ∧ IdRow w A' (rows.getD i []) := by
  obtain ⟨ad, e, hc⟩ := h.2 (by intro e; subst e; simp at hi)
  exact ⟨ad, e, hc i hi⟩
theorem OwnRows.sl {B : Nat} {w : World} {v : Value} {rows : List (List (List UInt8))} (h : OwnRows B w v rows) : ∃ A c, v = .slice A rows.length c ∧ RowsSl w A rows ∧ rows.length ≤ c := by
  obtain ⟨vs, h1, h2, h3⟩ := h
  rcases h2.2 with ⟨rfl, h0⟩ | ⟨g, cap, cur, rfl, hb, hg, hc, hm, _, _⟩
  · have e : rows = [] := List.eq_nil_of_length_eq_zero h0
    subst e
    exact ⟨none, 0, rfl, ⟨by simp, fun h => absurd rfl h⟩, by simp⟩
  · have hmx : maxLen = 9223372036854775807 := rfl
    refine ⟨_, _, rfl, ⟨by omega, fun _ => ⟨_, rfl, fun i hi => ?_⟩⟩, hc⟩
    have hi' : i < vs.length := by omega
    obtain ⟨⟨A', c', e, hr⟩, _⟩ := (h3 i hi).sl
    refine ⟨A', c', ?_, hr⟩
    have h4 := World.ownsRow.cells h2 (g := g) rfl i (vs.getD i undef) (by simp [hi'])
    rw [← e]
    exact h4
end Go.Proofs.YtabkaflccaklhaaGreat
