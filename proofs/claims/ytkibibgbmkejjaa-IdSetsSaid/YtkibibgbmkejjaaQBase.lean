/- Bytes as lists; blocks of cells. -/
import Derived.Test.YtkibibgbmkejjaaQReg
import Derived.Laws.Rows
set_option linter.unusedSimpArgs false
set_option linter.unusedVariables false
namespace Go.Qk
open Go.RowKit

/-- A byte of a list, as a number. -/
def b8 (l : List UInt8) (k : Nat) : Int := ((l.getD k 0).toNat : Int)
theorem b8_lo (l : List UInt8) (k : Nat) : 0 ≤ b8 l k := by unfold b8; omega
theorem b8_hi (l : List UInt8) (k : Nat) : b8 l k ≤ 255 := by unfold b8; have := (l.getD k 0).toNat_lt; omega
def u8s (l : List UInt8) : List Value := l.map fun b => .int .u8 (b.toNat : Int)
theorem u8s_length (l : List UInt8) : (u8s l).length = l.length := by simp [u8s]
theorem u8s_get (l : List UInt8) (k : Nat) (h : k < l.length) : (u8s l)[k]? = some (.int .u8 (b8 l k)) := by
  simp [u8s, b8, List.getElem?_eq_getElem h]
theorem u8s_append (l m : List UInt8) : u8s (l ++ m) = u8s l ++ u8s m := by simp [u8s]
theorem u8s_one (l : List UInt8) : ∀ u ∈ u8s l, u.oneCell' = true := by
  intro u hu
  obtain ⟨b, _, rfl⟩ := List.mem_map.1 hu
  rfl
/-- An id, as a value. -/
def idV (l : List UInt8) : Value := .agg (u8s l).toArray
theorem u8_eq {a b : UInt8} : ((a.toNat : Int) = (b.toNat : Int)) ↔ a = b := by
  constructor
  · intro h; exact UInt8.toNat_inj.1 (by omega)
  · rintro rfl; rfl
theorem b8_eq (l m : List UInt8) (k : Nat) : b8 l k = b8 m k ↔ l.getD k 0 = m.getD k 0 := u8_eq
theorem b8_lt (l m : List UInt8) (k : Nat) : b8 l k < b8 m k ↔ l.getD k 0 < m.getD k 0 := by
  unfold b8; rw [UInt8.lt_iff_toNat_lt]; omega

/-- A block that stays. -/
theorem grow_block {w w' : World} {g : Nat} {o : Obj} (h : w.heap[g]? = some o) (hg : Grow w w') : w'.heap[g]? = some o := by
  rw [hg.block g (Array.getElem?_eq_some_iff.1 h).1]; exact h
theorem grow_cell {w w' : World} {a : Addr} {v : Value} (h : w.cell? a = some v) (hg : Grow w w') : w'.cell? a = some v :=
  (hg.cell (block_lt_of_cell h)).trans h
theorem cell_u8 {w w' : World} {g : Nat} {l : List UInt8} {t : TypeId} (h : w.heap[g]? = some (.cells (u8s l).toArray t (0, 0))) (hg : Grow w w') (k : Nat) (hk : k < l.length) :
    w'.cell? ⟨g, k, none⟩ = some (.int .u8 (b8 l k)) := by
  rw [cell_of_row w' g k _ t (0, 0) (grow_block h hg)]
  simpa using u8s_get l k hk
theorem below_grow {B : Nat} {w w1 w2 : World} (h : Below B w w1) (hB : B ≤ w1.heap.size) (k : Grow w1 w2) : Below B w w2 :=
  h.trans ⟨k.os, k.tape, k.output, k.size, fun i hi => k.block i (Nat.lt_of_lt_of_le hi hB)⟩
theorem grow_refl (w : World) : Grow w w := Below.refl _ _
theorem grow_drew (w : World) : Grow w w.drew := (Below.refl _ _).drew
theorem grow_alloc (w : World) (o : Obj) : Grow w (w.alloc o) := (Below.refl _ _).alloc (Nat.le_refl _) o
theorem Grow.drew' {w w' : World} (h : Grow w w') : Grow w w'.drew := Below.drew h
theorem Grow.alloc' {w w' : World} (h : Grow w w') (o : Obj) : Grow w (w'.alloc o) := Below.alloc h h.size o

/-- Byte by byte. -/
def lexLess : List UInt8 → List UInt8 → Bool
  | a :: l, b :: m => if a = b then lexLess l m else decide (a < b)
  | _, _ => false
theorem lexLess_at : ∀ (k : Nat) (l m : List UInt8), k < l.length → k < m.length → l.take k = m.take k → l.getD k 0 ≠ m.getD k 0 → lexLess l m = decide (l.getD k 0 < m.getD k 0)
  | 0, a :: l, b :: m, _, _, _, hne => by simp at hne; simp [lexLess, hne]
  | k + 1, a :: l, b :: m, h1, h2, ht, hne => by
    simp at ht h1 h2
    obtain ⟨rfl, ht⟩ := ht
    simp only [lexLess, if_true, List.getD_cons_succ]
    exact lexLess_at k l m h1 h2 ht (by simpa using hne)
theorem lexLess_self : ∀ l : List UInt8, lexLess l l = false
  | [] => rfl
  | a :: l => by simp [lexLess, lexLess_self l]
theorem take_step {l m : List UInt8} {k : Nat} (h1 : k < l.length) (h2 : k < m.length) (ht : l.take k = m.take k) (he : l.getD k 0 = m.getD k 0) : l.take (k + 1) = m.take (k + 1) := by
  rw [List.take_succ_eq_append_getElem h1, List.take_succ_eq_append_getElem h2, ht]
  simp [h1, h2] at he
  rw [he]
theorem ret_bool {a b : Bool} (h : a = b) : Ending.returned (.bool a) = .returned (.bool b) := by rw [h]
theorem ret_int {k : IntKind} {a b : Int} (h : a = b) : Ending.returned (.int k a) = .returned (.int k b) := by rw [h]
end Go.Qk
