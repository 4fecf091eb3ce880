/- Frames by a set of blocks (Fr); rows of the call's own that grow, with the block that they end in; copies of texts into rows. -/
import Derived.Test.YtabkaflccaklhaaGreatQStr
import Derived.Test.YtabkaflccaklhaaGreatQRowR
import Derived.Test.YtabkaflccaklhaaGreatQFlo
import Derived.Lib.BufferWrite
import Derived.Laws.AppendOwnNone
set_option linter.unusedSimpArgs false
set_option linter.unusedVariables false
namespace Go.Qk
open Go.RowKit
structure Fr (D : Nat → Prop) (w w' : World) : Prop where
  os : w'.os = w.os
  tape : w'.tape = w.tape
  output : w'.output = w.output
  size : w.heap.size ≤ w'.heap.size
  block : ∀ k, k < w.heap.size → ¬ D k → w'.heap[k]? = w.heap[k]?
theorem Fr.refl (D : Nat → Prop) (w : World) : Fr D w w := ⟨rfl, rfl, rfl, Nat.le_refl _, fun _ _ _ => rfl⟩
theorem Fr.trans {D : Nat → Prop} {a b c : World} (h : Fr D a b) (k : Fr D b c) : Fr D a c :=
  ⟨k.os.trans h.os, k.tape.trans h.tape, k.output.trans h.output, Nat.le_trans h.size k.size, fun i hi hd => (k.block i (Nat.lt_of_lt_of_le hi h.size) hd).trans (h.block i hi hd)⟩
theorem Fr.mono {D E : Nat → Prop} {a b : World} (h : Fr D a b) (hd : ∀ k, D k → E k) : Fr E a b := ⟨h.os, h.tape, h.output, h.size, fun k hk hn => h.block k hk (fun e => hn (hd k e))⟩
theorem Fr.step {D E : Nat → Prop} {a b c : World} (h : Fr D a b) (k : Fr E b c) (hd : ∀ k, E k → D k ∨ a.heap.size ≤ k) : Fr D a c :=
  ⟨k.os.trans h.os, k.tape.trans h.tape, k.output.trans h.output, Nat.le_trans h.size k.size, fun i hi hn => (k.block i (Nat.lt_of_lt_of_le hi h.size) (fun e => (hd i e).elim hn (by omega))).trans (h.block i hi hn)⟩
theorem fr_grow {D : Nat → Prop} {a b : World} (h : Grow a b) : Fr D a b := ⟨h.os, h.tape, h.output, h.size, fun k hk _ => h.block k hk⟩
theorem fr_grown {D : Nat → Prop} {a b : World} {row : Option Nat} (h : a.grownBy b row) (hr : ∀ k, row = some k → D k ∨ a.heap.size ≤ k) : Fr D a b :=
  ⟨h.os, h.tape, h.output, h.size, fun k hk hn => h.block k hk (fun e => (hr k e.symm).elim hn (by omega))⟩
theorem Fr.below {D : Nat → Prop} {a b : World} (h : Fr D a b) {B : Nat} (hd : ∀ k, D k → B ≤ k) (hB : B ≤ a.heap.size) : Below B a b :=
  ⟨h.os, h.tape, h.output, h.size, fun k hk => h.block k (by omega) (fun e => by have := hd k e; omega)⟩
theorem Fr.blk {D : Nat → Prop} {a b : World} (h : Fr D a b) {k : Nat} {o : Obj} (hk : a.heap[k]? = some o) (hd : ¬ D k) : b.heap[k]? = some o := by
  rw [h.block k (Array.getElem?_eq_some_iff.1 hk).1 hd]; exact hk
theorem own_lt {w : World} {B : Nat} {e : TypeId} {sz n : Nat} {v : Value} {xs : List Value} (h : w.ownsRow B e sz v n xs) {k : Nat} (hk : v.ownBlock = some k) : B ≤ k ∧ k < w.heap.size := by
  rcases h.2 with ⟨rfl, _⟩ | ⟨g, cap, cur, rfl, h1, h2, _⟩
  · simp [Value.ownBlock] at hk
  · simp only [Value.ownBlock, Option.some.injEq] at hk
    subst hk
    exact ⟨h1, (Array.getElem?_eq_some_iff.1 h2).1⟩
theorem Fr.own {D : Nat → Prop} {a b : World} (h : Fr D a b) {B : Nat} {e : TypeId} {sz n : Nat} {v : Value} {xs : List Value} (ho : a.ownsRow B e sz v n xs) (hd : ∀ k, v.ownBlock = some k → ¬ D k) : b.ownsRow B e sz v n xs := by
  rcases ho with ⟨h0, ⟨rfl, h1⟩ | ⟨g, cap, cur, rfl, h1, h2, h3⟩⟩
  · exact ⟨h0, .inl ⟨rfl, h1⟩⟩
  · exact ⟨h0, .inr ⟨g, cap, cur, rfl, h1, h.blk h2 (hd g rfl), h3⟩⟩
theorem own_rebase {w : World} {B C : Nat} {e : TypeId} {sz n : Nat} {v : Value} {xs : List Value} (ho : w.ownsRow B e sz v n xs) (hc : ∀ k, v.ownBlock = some k → C ≤ k) : w.ownsRow C e sz v n xs := by
  rcases ho with ⟨h0, ⟨rfl, h1⟩ | ⟨g, cap, cur, rfl, h1, h2, h3⟩⟩
  · exact ⟨h0, .inl ⟨rfl, h1⟩⟩
  · exact ⟨h0, .inr ⟨g, cap, cur, rfl, hc g rfl, h2, h3⟩⟩
/-- The block of a row, behind what may have moved it: as it was, or new. -/
def Moved (w : World) (v v' : Value) : Prop := ∀ k, v'.ownBlock = some k → v.ownBlock = some k ∨ w.heap.size ≤ k
theorem moved_refl (w : World) (v : Value) : Moved w v v := fun _ h => .inl h
theorem Moved.trans {w w' : World} {a b c : Value} (h : Moved w a b) (k : Moved w' b c) (hs : w.heap.size ≤ w'.heap.size) : Moved w a c := fun i hi => by
  rcases k i hi with h1 | h1
  · exact h i h1
  · exact .inr (by omega)
theorem moved_or {w : World} {v v' : Value} (h : v'.ownBlock = v.ownBlock ∨ v'.ownBlock = some w.heap.size) : Moved w v v' := fun k hk => by
  rcases h with h | h
  · exact .inl (h ▸ hk)
  · rw [h] at hk; injection hk with hk; exact .inr (by omega)
theorem blk_ne {w : World} {a b : Nat} {c1 c2 : Array Value} {t1 t2 : TypeId} {f1 f2 : Nat × Nat} (h1 : w.heap[a]? = some (.cells c1 t1 f1)) (h2 : w.heap[b]? = some (.cells c2 t2 f2)) (ht : t1 ≠ t2) : a ≠ b := by
  intro e
  subst e
  rw [h1] at h2
  injection h2 with h2
  injection h2 with _ h2 _
  exact ht h2
theorem Moved.mono {w w1 : World} {a b : Value} (h : Moved w1 a b) (hs : w.heap.size ≤ w1.heap.size) : Moved w a b := fun k hk => (h k hk).imp id (by omega)
theorem own_oneCell {w : World} {B : Nat} {e : TypeId} {sz n : Nat} {v : Value} {xs : List Value} (ho : w.ownsRow B e sz v n xs) : v.oneCell' = true := by
  rcases ho.2 with ⟨rfl, _⟩ | ⟨g, cap, cur, rfl, _⟩ <;> rfl
theorem own_cells {w : World} {B : Nat} {e : TypeId} {sz n : Nat} {v : Value} {xs : List Value} (ho : w.ownsRow B e sz v n xs) : v.cells = #[v] := by
  rcases ho.2 with ⟨rfl, _⟩ | ⟨g, cap, cur, rfl, _⟩ <;> rfl
/-- A slice that reads as a row of cells (m elements). -/
def SlCells (w : World) (A : Option Addr) (news : List Value) : Prop := news ≠ [] → ∃ ad, A = some ad ∧ ∀ j u, news[j]? = some u → w.cell? (ad.add j) = some u
theorem SlCells.grow {w w1 : World} {A : Option Addr} {xs : List Value} (h : SlCells w A xs) (hg : Grow w w1) : SlCells w1 A xs := fun hn => by
  obtain ⟨ad, e, hc⟩ := h hn
  exact ⟨ad, e, fun j u hj => grow_cell (hc j u hj) hg⟩
theorem own_sl {w : World} {B : Nat} {e : TypeId} {sz n : Nat} {v : Value} {xs : List Value} (h : w.ownsRow B e sz v n xs) : ∃ A c, v = .slice A n c ∧ SlCells w A xs := by
  rcases h.2 with ⟨rfl, h0⟩ | ⟨g, cap, cur, rfl, h1, h2, h3, h4, h5, h6⟩
  · subst h0
    exact ⟨none, 0, rfl, fun hn => absurd (List.eq_nil_of_length_eq_zero (by simpa using h.1)) hn⟩
  · refine ⟨_, _, rfl, fun _ => ⟨_, rfl, fun j u hj => ?_⟩⟩
    have := World.ownsRow.cells h (g := g) rfl j u hj
    rw [← this]
section
variable {P : Program} {ops : Array Oper} {Q : Exit → Act → World → Prop} {rest : List Oper} {o o2 : Oper} {a : Act} {w : World}
/-- append(x, y...) to a row of the call's own, of whatever cells. -/
theorem op_appOwn {T e : TypeId} {x y : Operand} {z v : Value} {size bytes n m c : Nat} {A : Option Addr} {xs news : List Value} {B : Nat} (hgd : o.guard = none) (ho : o.op = .call { callee := .builtin .append, args := #[x, y], argTypes := #[T, T] })
    (ht : P.underlying T = some (.slice e)) (hi : (P.info? e).map (fun i => (i.zero, i.size, i.bytes)) = some (some z, size, bytes)) (hz : z.cells.size = size) (hsz : 0 < size)
    (hx : a.eval x = v) (hy : a.eval y = .slice A m c) (hm : news.length = m * size) (hr : SlCells w A news) (hc0 : A = none → c = 0) (h1 : ∀ u ∈ news, u.oneCell' = true) (hown : w.ownsRow B e size v n xs) (hB : B ≤ w.heap.size) (hlen : (n + m) * bytes ≤ 140737488355328) (hlen' : n + m ≤ 140737488355328)
    (h : ∀ v' w', w'.ownsRow B e size v' (n + m) (xs ++ news) → w.grownBy w' v.ownBlock → Moved w v v' → wpList P ops Q rest (a.put o.dst v') w') : wpList P ops Q (o :: rest) a w := by
  obtain ⟨i, i1, i2, i3, i4⟩ := info_parts hi
  cases A with
  | none =>
    have hn : news = [] := by
      by_cases e : news = []
      · exact e
      · obtain ⟨_, e2, _⟩ := hr e; cases e2
    subst hn
    obtain rfl : c = 0 := hc0 rfl
    obtain rfl : m = 0 := by
      rcases Nat.eq_zero_or_pos m with h0 | h0
      · exact h0
      · have := Nat.mul_pos h0 hsz; simp at hm; omega
    refine wpList_append_own_none hgd x y T ho B e i size ht i1 v n xs hx hown hy ?_
    exact h v w (by simpa using hown) (grownBy_grow (grow_refl w) _) (moved_refl _ _)
  | some ad =>
    have hcs : ∀ j u, news[j]? = some u → w.cell? (ad.add j) = some u := fun j u hj => by
      obtain ⟨ad', e, hc⟩ := hr (by intro e; subst e; simp at hj)
      cases e
      exact hc j u hj
    refine wpList_append_own_at w hgd x y T ho B e i z size bytes ht i1 i2 i3 i4 hz hsz v n xs hx hown ad m c news hy hm hcs h1 (by simp only [maxLen]; omega) hlen hB ?_
    intro v' w' q1 q2 _ q4
    exact h v' w' q1 q2 (moved_or q4)
/-- append(buf, text...): with the block. -/
theorem op_appStr {t u e : TypeId} {x y : Operand} {v : Value} {l : List UInt8} {s : ByteArray} {B : Nat} (hgd : o.guard = none) (ho : o.op = .call { callee := .builtin .append, args := #[x, y], argTypes := #[t, u] })
    (ht : P.underlying t = some (.slice e)) (hu : P.underlying u = some .string) (hi : (P.info? e).map (fun i => (i.zero, i.size, i.bytes)) = some (some (.int .u8 0), 1, 1))
    (hs : a.eval x = v) (hx : a.eval y = .string s) (hown : Buf e B w v l) (hB : B ≤ w.heap.size) (hlen : l.length + s.size ≤ 140737488355328)
    (h : ∀ v' w', Buf e B w' v' (l ++ bl s) → w.grownBy w' v.ownBlock → True → wpList P ops Q rest (a.put o.dst v') w') : wpList P ops Q (o :: rest) a w := by
  obtain ⟨i, h1, h2, h3, h4⟩ := info_u8 hi
  refine Lib.wpList_append_own_string w hgd x y t u ho B e i ht hu h1 h2 h3 h4 v l.length (u8s l) hs hown s hx (by simp only [maxLen]; omega) hlen hB ?_
  intro v' w' hown' hg _
  refine h v' w' ?_ hg trivial
  unfold Buf
  rw [List.length_append, bl_length, u8s_append]
  exact hown'
/-- append(x, one) to a row of the call's own, elements of one cell: with the block. -/
theorem op_app1M {T e : TypeId} {d : Tmp} {x y : Operand} {z v u : Value} {bytes n : Nat} {ys : List Value} {B : Nat} (hgd : o.guard = none) (ho : o.op = .buildSlice T 1 #[(0, y)]) (hd : o.dst = some d)
    (hgd2 : o2.guard = none) (ho2 : o2.op = .call { callee := .builtin .append, args := #[x, .tmp d], argTypes := #[T, T] }) (hy : a.eval y = u) (ht : P.underlying T = some (.slice e)) (hi : (P.info? e).map (fun i => (i.zero, i.size, i.bytes)) = some (some z, 1, bytes)) (hz : z.cells.size = 1)
    (hx : ∀ u, (a.put o.dst u).eval x = v) (he : ∀ u, (a.put o.dst u).eval (.tmp d) = u) (hu : u.cells = #[u]) (h1 : u.oneCell' = true) (hown : w.ownsRow B e 1 v n ys) (hB : B ≤ w.heap.size) (hlen : (n + 1) * bytes ≤ 140737488355328) (hlen2 : n < 1000000000000)
    (h : ∀ s v' w', w'.ownsRow B e 1 v' (n + 1) (ys ++ [u]) → w.grownBy w' v.ownBlock → Moved w v v' → wpList P ops Q rest ((a.put o.dst s).put o2.dst v') w') : wpList P ops Q (o :: o2 :: rest) a w := by
  have hr := run_buildSlice (P := P) w T e 1 1 bytes z ht hi hz (by omega) (by omega) (by omega) [u] [[u]] (by simp [hu]) (by simp) rfl
  have hp : #[(0, y)].map (fun (i, y) => (i, a.eval y)) = (([u].zipIdx 0).map Prod.swap).toArray := by simp [hy]
  refine wpList_val (v := .slice (some ⟨w.heap.size, 0, none⟩) 1 1) (w' := w.alloc (.cells [[u]].flatten.toArray e)) hgd ?_ ?_
  · unfold execOp
    simp only [ho, hp, Sem.run_bind, Sem.run_pure, Result.andThen_ok, hr]
  · obtain ⟨i, i1, i2, i3, i4⟩ := info_parts hi
    refine wpList_append_own_at (P := P) _ hgd2 x (.tmp d) T ho2 B e i _ 1 bytes ht i1 i2 i3 i4 hz (by omega) v n ys (hx _) (World.ownsRow.alloc hown _) ⟨w.heap.size, 0, none⟩ 1 1 [u] (he _) rfl (fun j s hj => cells_new w _ _ j s (by simpa using hj)) (by simpa using h1) (by simp only [maxLen]; omega) hlen (by simp; omega) ?_
    intro v' w' q1 q2 _ q4
    refine h _ v' w' q1 (grownBy_trans (grownBy_grow (grow_alloc w _) v.ownBlock) q2) (fun k hk => ?_)
    rcases moved_or q4 k hk with h' | h'
    · exact .inl h'
    · exact .inr (by simp at h'; omega)
/-- A cell is made and stored at once. -/
theorem op_allocstoreB {T : TypeId} {d : Tmp} {y : Operand} {z cs : List Value} (hgd : o.guard = none) (ho : o.op = .alloc T) (hd : o.dst = some d) (hgd2 : o2.guard = none) (hdst2 : o2.dst = none) (ho2 : o2.op = .store T (.tmp d) y)
    (hr : ∀ w, (Instr.alloc T true (.tuple #[])).run P w = .ok (.pointer (some ⟨w.heap.size, 0, none⟩)) (w.alloc (.cells z.toArray T)))
    (hx : ∀ g, (a.put o.dst (.pointer (some ⟨g, 0, none⟩))).eval (.tmp d) = .pointer (some ⟨g, 0, none⟩)) (hy : ∀ g, (a.put o.dst (.pointer (some ⟨g, 0, none⟩))).eval y = .agg cs.toArray) (hl : z.length = cs.length) (hi : (P.info? T).map (·.size) = some cs.length) (h1 : ∀ v ∈ cs, v.oneCell' = true)
    (h : ∀ g W, w.heap.size ≤ g → g < W.heap.size → Grow w W → W.heap[g]? = some (.cells cs.toArray T (0, 0)) → wpList P ops Q rest (a.put o.dst (.pointer (some ⟨g, 0, none⟩))) W) :
    wpList P ops Q (o :: o2 :: rest) a w := by
  refine op_allocC (z := undef) (cs := z.toArray) hgd ho hr fun g W q1 q2 q3 q4 => ?_
  refine store_block T _ _ g 0 cs z cs T hgd2 hdst2 ho2 (hx g) (hy g) q4 hi (by omega) h1 (by simp [hl]) ?_
  intro W' r1 r2 r3
  exact h g W' q1 (Nat.lt_of_lt_of_le q2 r2.size) (r3 _ _ q3 q1) r1
/-- copy(row[off:], text) into a block that is known whole. -/
theorem op_copyStr {x y : Operand} {dT sT elem : TypeId} {g off dLen dCap : Nat} {l : List UInt8} {cur : List Value} {t : TypeId} (hgd : o.guard = none) (ho : o.op = .call { callee := .builtin .copy, args := #[x, y], argTypes := #[dT, sT] })
    (hu : P.underlying dT = some (.slice elem)) (hsz : (P.info? elem).map (·.size) = some 1) (hx : a.eval x = .slice (some ⟨g, off, none⟩) dLen dCap) (hy : a.eval y = .string (bs l)) (hg : w.heap[g]? = some (.cells cur.toArray t (0, 0)))
    (hle : l.length ≤ dLen) (hfit : off + l.length ≤ cur.length)
    (h : ∀ W, W.heap[g]? = some (.cells (cur.take off ++ u8s l ++ cur.drop (off + l.length)).toArray t (0, 0)) → w.grownBy W (some g) → wpList P ops Q rest (a.put o.dst (goInt l.length)) W) : wpList P ops Q (o :: rest) a w := by
  have hr := Lib.run_copy_row_string (P := P) w dT sT o.type elem g off dLen dCap (bs l) cur.toArray t hu hsz hg (by rw [bs_size]; exact hle) (by rw [bs_size]; simpa using hfit)
  have e : (cur.toArray.toList.take off ++ Lib.byteCells (bs l).data.toList ++ cur.toArray.toList.drop (off + (bs l).size)) = cur.take off ++ u8s l ++ cur.drop (off + l.length) := by
    rw [bs_size]; rfl
  rw [e, bs_size] at hr
  refine wpList_val (v := goInt l.length) (w' := w.setRow g (cur.take off ++ u8s l ++ cur.drop (off + l.length)).toArray) hgd ?_ (h _ (heap_setRow_same hg) (grownBy_setRow _ _ _))
  unfold execOp
  simp only [ho, resolve, invoke, builtin, Sem.run_bind, Sem.run_pure, Result.andThen_ok, List.map_toArray, List.map_cons, List.map_nil, hx, hy, hr]
end
theorem run_opLoadB {P : Program} {o : Oper} {a : Act} {w : World} {x : Operand} {g : Nat} {cs : Array Value} {t T : TypeId} {fr : Nat × Nat} {d : TypeDesc} (ho : o.op = .load T x) (hx : a.eval x = .pointer (some ⟨g, 0, none⟩))
    (hg : w.heap[g]? = some (.cells cs t fr)) (hu : P.underlying T = some d) (hd : aggD d = true) (hi : (P.info? T).map (·.size) = some cs.size) : (execOp a.eval o).run P w = .ok (.value (.agg cs)) w := by
  unfold execOp
  simp only [ho, hx, Sem.run_bind, Sem.run_pure, Result.andThen_ok, run_loadB (P := P) hg hu hd hi]
theorem run_opLoadC {P : Program} {o : Oper} {a : Act} {w : World} {x : Operand} {g i : Nat} {cs : Array Value} {t T : TypeId} {fr : Nat × Nat} {v : Value} {d : TypeDesc} (ho : o.op = .load T x) (hx : a.eval x = .pointer (some ⟨g, i, none⟩))
    (hg : w.heap[g]? = some (.cells cs t fr)) (hv : cs[i]? = some v) (hu : P.underlying T = some d) (hd : aggD d = false) : (execOp a.eval o).run P w = .ok (.value v) w := by
  unfold execOp
  simp only [ho, hx, Sem.run_bind, Sem.run_pure, Result.andThen_ok, run_load1 (P := P) (blk_cell hg hv) hu hd]
/-- A slice of one element, made in a drawn region. -/
theorem does_build1 {P : Program} {T e : TypeId} {o : Oper} {a : Act} {w : World} {y : Operand} {u z : Value} {cs : List Value} {size bytes : Nat} (ho : o.op = .buildSlice T 1 #[(0, y)]) (hy : a.eval y = u) (hu : u.cells = cs.toArray) (hl : cs.length = size)
    (ht : P.underlying T = some (.slice e)) (hi : (P.info? e).map (fun i => (i.zero, i.size, i.bytes)) = some (some z, size, bytes)) (hz : z.cells.size = size) (hs : 0 < size) (hn : size ≤ 16777216) :
    Does P o a w (fun v w' => v = .slice (some ⟨w.heap.size, 0, none⟩) 1 1 ∧ w' = w.alloc (.cells cs.toArray e)) := by
  have hr := run_buildSlice (P := P) w T e size 1 bytes z ht hi hz hs (by omega) (by omega) [u] [cs] (by simp [hu]) (by simpa using hl) rfl
  have hp : #[(0, y)].map (fun (i, y) => (i, a.eval y)) = (([u].zipIdx 0).map Prod.swap).toArray := by simp [hy]
  have : (execOp a.eval o).run P w = .ok (.value (.slice (some ⟨w.heap.size, 0, none⟩) 1 1)) (w.alloc (.cells [cs].flatten.toArray e)) := by
    unfold execOp
    simp only [ho, hp, Sem.run_bind, Sem.run_pure, Result.andThen_ok, hr]
  exact does_val this ⟨rfl, by simp⟩
/-- append(x, y...) to a row of the call's own, in a drawn region. -/
theorem does_appOwn {P : Program} {T e : TypeId} {o : Oper} {a : Act} {w : World} {x y : Operand} {z v : Value} {size bytes n m c : Nat} {ad : Addr} {xs news : List Value} {B : Nat} (ho : o.op = .call { callee := .builtin .append, args := #[x, y], argTypes := #[T, T] })
    (ht : P.underlying T = some (.slice e)) (hi : (P.info? e).map (fun i => (i.zero, i.size, i.bytes)) = some (some z, size, bytes)) (hz : z.cells.size = size) (hsz : 0 < size)
    (hx : a.eval x = v) (hy : a.eval y = .slice (some ad) m c) (hm : news.length = m * size) (hr : ∀ j u, news[j]? = some u → w.cell? (ad.add j) = some u) (h1 : ∀ u ∈ news, u.oneCell' = true) (hown : w.ownsRow B e size v n xs) (hB : B ≤ w.heap.size) (hlen : (n + m) * bytes ≤ 140737488355328) (hlen' : n + m ≤ 140737488355328) :
    Does P o a w (fun v' w' => w'.ownsRow B e size v' (n + m) (xs ++ news) ∧ w.grownBy w' v.ownBlock ∧ Moved w v v') := by
  obtain ⟨i, i1, i2, i3, i4⟩ := info_parts hi
  obtain ⟨v', w', hr, h2, h3, h4, h5⟩ := run_append_own_at (P := P) w B T o.type e i z size bytes ht i1 i2 i3 i4 hz hsz v n xs hown ad m c news hm hr h1 (by simp only [maxLen]; omega) hlen hB
  have : (execOp a.eval o).run P w = .ok (.value v') w' := by
    unfold execOp
    simp only [ho, resolve, invoke, builtin, Sem.run_bind, Sem.run_pure, Result.andThen_ok, List.map_toArray, List.map_cons, List.map_nil, hx, hy, hr]
  exact does_val this ⟨h2, h3, moved_or h5⟩
/-- A call in a drawn region. -/
theorem does_enter {P : Program} {o : Oper} {a : Act} {w : World} {E : Ending → World → Prop} {V : Value → World → Prop} {f : FuncId} {args : Array Value} (hrun : (execOp a.eval o).run P w = .ok (.enter f args) w) (hc : Calls P f args w E) (hE : ∀ e w', E e w' → ∃ v, e = .returned v ∧ V v w') : Does P o a w V :=
  does_call hrun (hc.mono hE)
/-- What hands back a row of its own. -/
def RetOwn (B : Nat) (e : TypeId) (sz n : Nat) (xs : List Value) (w : World) : Ending → World → Prop := fun r w' => ∃ v, r = .returned v ∧ w'.ownsRow B e sz v n xs ∧ Below w.heap.size w w'
theorem empty_row (w : World) (B : Nat) (e : TypeId) (sz : Nat) (hB : B ≤ w.heap.size) : (w.alloc (.cells #[] e)).ownsRow B e sz (.slice (some ⟨w.heap.size, 0, none⟩) 0 0) 0 [] :=
  ⟨by simp, .inr ⟨w.heap.size, 0, #[], rfl, hB, heap_alloc_new _ _, Nat.le_refl _, by simp [maxLen], by simp, by simp⟩⟩
end Go.Qk
