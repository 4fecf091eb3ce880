/- Rows of bytes of a call's own; rows of strings and of ids that are read. -/
import Derived.Test.YtkibibgbmkejjaaQWordP
import Derived.Lib.AppendStr
import Derived.OwnWalk
set_option linter.unusedSimpArgs false
set_option linter.unusedVariables false
namespace Go.Qk
open Go.RowKit

theorem own_grow {w w1 : World} {B : Nat} {e : TypeId} {sz n : Nat} {v : Value} {xs : List Value} (h : w.ownsRow B e sz v n xs) (hg : Grow w w1) : w1.ownsRow B e sz v n xs :=
  h.kept (w' := w1) (row := none) ⟨hg.os, hg.tape, hg.output, hg.size, fun i hi _ => hg.block i hi⟩ (by cases v.ownBlock <;> simp)
theorem own_block_ge {w : World} {B : Nat} {e : TypeId} {sz n : Nat} {v : Value} {xs : List Value} (h : w.ownsRow B e sz v n xs) : ∀ k, v.ownBlock = some k → B ≤ k := fun k hk => (h.lt k hk).1

theorem own_form {w : World} {B : Nat} {e : TypeId} {sz n : Nat} {v : Value} {xs : List Value} (h : w.ownsRow B e sz v n xs) (hn : 0 < n) : ∃ g cap, v = .slice (some ⟨g, 0, none⟩) n cap ∧ B ≤ g ∧ n ≤ cap := by
  rcases h.2 with ⟨_, h0⟩ | ⟨g, cap, cur, rfl, hb, _, hc, _⟩
  · omega
  · exact ⟨g, cap, rfl, hb, hc⟩
/-- A row of bytes of the call's own. -/
def Buf (e : TypeId) (B : Nat) (w : World) (v : Value) (l : List UInt8) : Prop := w.ownsRow B e 1 v l.length (u8s l)
theorem Buf.grow {e : TypeId} {B : Nat} {w w1 : World} {v : Value} {l : List UInt8} (h : Buf e B w v l) (hg : Grow w w1) : Buf e B w1 v l := own_grow h hg
theorem strCells_u8s (s : ByteArray) : Lib.strCells s = u8s (bl s) := rfl

theorem addr_add (g j : Nat) : (⟨g, 0, none⟩ : Addr).add j = ⟨g, j, none⟩ := by unfold Addr.add; split <;> simp_all
theorem cells_new (w : World) (vs : List Value) (t : TypeId) (j : Nat) (u : Value) (h : vs[j]? = some u) : (w.alloc (.cells vs.toArray t)).cell? ((⟨w.heap.size, 0, none⟩ : Addr).add j) = some u := by
  rw [addr_add, cell_of_row _ _ _ _ _ _ (heap_alloc_new _ _)]
  simpa using h

section
variable {P : Program} {w : World} {ops : Array Oper} {rest : List Oper} {o : Oper} {a : Act} {Q : Exit → Act → World → Prop} {w0 : World} {B : Nat}

theorem info_u8 {e : TypeId} (h : (P.info? e).map (fun i => (i.zero, i.size, i.bytes)) = some (some (.int .u8 0), 1, 1)) : ∃ i, P.info? e = some i ∧ i.zero = some (.int .u8 0) ∧ i.size = 1 ∧ i.bytes = 1 := info_parts h

/-- append(buf, s...) of a string. -/
theorem app_str (sl x : Operand) (t u e : TypeId) (v : Value) (l : List UInt8) (s : ByteArray) (hgd : o.guard = none) (ho : o.op = .call { callee := .builtin .append, args := #[sl, x], argTypes := #[t, u] })
    (ht : P.underlying t = some (.slice e)) (hu : P.underlying u = some .string) (hi : (P.info? e).map (fun i => (i.zero, i.size, i.bytes)) = some (some (.int .u8 0), 1, 1))
    (hs : a.eval sl = v) (hx : a.eval x = .string s) (hown : Buf e B w v l) (hb : Below B w0 w) (hB : B ≤ w.heap.size) (hlen : l.length + s.size ≤ 140737488355328)
    (h : ∀ v' w', Buf e B w' v' (l ++ bl s) → Below B w0 w' → B ≤ w'.heap.size → wpList P ops Q rest (a.put o.dst v') w') : wpList P ops Q (o :: rest) a w := by
  obtain ⟨i, h1, h2, h3, h4⟩ := info_u8 hi
  refine Lib.wpList_append_own_string w hgd sl x t u ho B e i ht hu h1 h2 h3 h4 v l.length (u8s l) hs hown s hx (by simp only [maxLen]; omega) hlen hB ?_
  intro v' w' hown' hg _
  refine h v' w' ?_ (hb.grown hg hB (own_block_ge hown)) (Nat.le_trans hB hg.size)
  unfold Buf
  rw [List.length_append, bl_length, u8s_append]
  exact hown'
/-- append(buf, bytes...) of another row's bytes. -/
theorem app_bytes (sl x : Operand) (t e : TypeId) (v : Value) (l m : List UInt8) (ad : Addr) (n c : Nat) (hgd : o.guard = none) (ho : o.op = .call { callee := .builtin .append, args := #[sl, x], argTypes := #[t, t] })
    (ht : P.underlying t = some (.slice e)) (hi : (P.info? e).map (fun i => (i.zero, i.size, i.bytes)) = some (some (.int .u8 0), 1, 1))
    (hs : a.eval sl = v) (hx : a.eval x = .slice (some ad) n c) (hn : m.length = n) (hm : ∀ i, i < m.length → w.cell? (ad.add i) = some (.int .u8 (b8 m i)))
    (hown : Buf e B w v l) (hb : Below B w0 w) (hB : B ≤ w.heap.size) (hlen : l.length + m.length ≤ 140737488355328)
    (h : ∀ v' w', Buf e B w' v' (l ++ m) → Below B w0 w' → B ≤ w'.heap.size → wpList P ops Q rest (a.put o.dst v') w') : wpList P ops Q (o :: rest) a w := by
  obtain ⟨i, h1, h2, h3, h4⟩ := info_u8 hi
  subst hn
  refine wpList_append_own w hgd sl x t ho B e i _ 1 1 ht h1 h2 h3 h4 rfl (by decide) v l.length (u8s l) hs hown ad m.length c (u8s m) hx (by rw [u8s_length]; omega) (fun j u hj => ?_) (u8s_one m) (by simp only [maxLen]; omega) (by omega) hB ?_
  · have hlt : j < m.length := by have := (List.getElem?_eq_some_iff.1 hj).1; rwa [u8s_length] at this
    rw [u8s_get m j hlt] at hj
    rw [hm j hlt]
    exact hj
  · intro v' w' hown' hg _
    refine h v' w' ?_ (hb.grown hg hB (own_block_ge hown)) (Nat.le_trans hB hg.size)
    unfold Buf
    rw [List.length_append, u8s_append]
    exact hown'
/-- append(row, cells...) of another row's cells. -/
theorem app_cells (sl x : Operand) (t e : TypeId) (z : Value) (size bytes : Nat) (v : Value) (n : Nat) (xs news : List Value) (ad : Addr) (m c : Nat) (hgd : o.guard = none) (ho : o.op = .call { callee := .builtin .append, args := #[sl, x], argTypes := #[t, t] })
    (ht : P.underlying t = some (.slice e)) (hi : (P.info? e).map (fun i => (i.zero, i.size, i.bytes)) = some (some z, size, bytes)) (hzs : z.cells.size = size) (hsz : 0 < size)
    (hs : a.eval sl = v) (hx : a.eval x = .slice (some ad) m c) (hm : news.length = m * size) (hc : ∀ j u, news[j]? = some u → w.cell? (ad.add j) = some u) (h1 : ∀ u ∈ news, u.oneCell' = true)
    (hown : w.ownsRow B e size v n xs) (hb : Below B w0 w) (hB : B ≤ w.heap.size) (hlen : (n + m) * bytes ≤ 140737488355328) (hlen' : n + m ≤ 140737488355328)
    (h : ∀ v' w', w'.ownsRow B e size v' (n + m) (xs ++ news) → Below B w0 w' → B ≤ w'.heap.size → wpList P ops Q rest (a.put o.dst v') w') : wpList P ops Q (o :: rest) a w := by
  obtain ⟨i, h2, h3, h4, h5⟩ := info_parts hi
  refine wpList_append_own w hgd sl x t ho B e i z size bytes ht h2 h3 h4 h5 hzs hsz v n xs hs hown ad m c news hx hm hc h1 (by simp only [maxLen]; omega) hlen hB ?_
  intro v' w' hown' hg _
  exact h v' w' hown' (hb.grown hg hB (own_block_ge hown)) (Nat.le_trans hB hg.size)
/-- string(buf). -/
theorem buf_str (src e dst : TypeId) (hs : P.underlying src = some (.slice e)) (he : P.underlying e = some (.int .u8)) (hd : P.underlying dst = some .string) (v : Value) (l : List UInt8) (h : Buf e B w v l) :
    (convert src dst v).run P w = .ok (.string (bs l)) w := by
  rcases h.2 with ⟨rfl, h0⟩ | ⟨g, cap, cur, rfl, _⟩
  · obtain rfl : l = [] := List.eq_nil_of_length_eq_zero h0
    exact run_convert_bytes_nil w src e hs he 0 0 dst hd
  · refine run_str w src e dst hs he hd g 0 cap l (fun i hi => ?_) l.length rfl
    have := World.ownsRow.cells h (g := g) rfl i _ (u8s_get l i hi)
    rw [← this]
    unfold Addr.add
    split <;> simp_all
end

theorem buf_alloc (w : World) (e : TypeId) (l : List UInt8) (cap : Nat) (hc : cap = l.length) (hl : l.length ≤ maxLen) : Buf e w.heap.size (w.alloc (.cells (u8s l).toArray e)) (.slice (some ⟨w.heap.size, 0, none⟩) l.length cap) l := by
  subst hc
  refine ⟨by simp [u8s_length], .inr ⟨w.heap.size, l.length, (u8s l).toArray, rfl, Nat.le_refl _, heap_alloc_new _ _, Nat.le_refl _, hl, by simp [u8s_length], ?_⟩⟩
  rw [Nat.mul_one]
  simp [← u8s_length l]
theorem buf_nil (w : World) (e : TypeId) (B : Nat) : Buf e B w (.slice none 0 0) [] := ⟨by simp [u8s], .inl ⟨rfl, rfl⟩⟩

theorem run_index_str {P : Program} (t : TypeId) (s : ByteArray) (k : Nat) (h : k < s.size) (i : Int) (hi : i = k) (w : World) (ht : P.underlying t = some .string) :
    (Instr.index t (.string s) (.int .i64 i)).run P w = .ok (.int .u8 (b8 (bl s) k)) w := by
  subst hi
  have h1 : (0 : Int) ≤ (k : Int) := by omega
  have h2 : (k : Int) < (s.size : Int) := by omega
  go_simp
  have e : (bl s).getD k 0 = s[k] := by
    simp [bl, List.getD_eq_getElem?_getD, List.getElem?_eq_getElem (show k < s.data.toList.length by rw [Array.length_toList]; exact h)]
    rfl
  simp only [b8, e]

/-- A row of strings that is read. -/
def StrRow (w : World) (A : Option Addr) (xs : List ByteArray) : Prop := xs.length ≤ 9223372036854775807 ∧ (xs ≠ [] → ∃ ad, A = some ad ∧ ∀ i, i < xs.length → w.cell? (ad.add i) = some (.string (xs.getD i ByteArray.empty)))
theorem StrRow.grow {w w1 : World} {A : Option Addr} {xs : List ByteArray} (h : StrRow w A xs) (hg : Grow w w1) : StrRow w1 A xs :=
  ⟨h.1, fun hne => by obtain ⟨ad, e, hc⟩ := h.2 hne; exact ⟨ad, e, fun i hi => grow_cell (hc i hi) hg⟩⟩
theorem StrRow.at_ {w : World} {A : Option Addr} {xs : List ByteArray} (h : StrRow w A xs) (i : Nat) (hi : i < xs.length) : ∃ ad, A = some ad ∧ w.cell? (ad.add i) = some (.string (xs.getD i ByteArray.empty)) := by
  obtain ⟨ad, e, hc⟩ := h.2 (by intro e; subst e; simp at hi)
  exact ⟨ad, e, hc i hi⟩
end Go.Qk
