/- A tagged text: lists alone. -/
import Derived.Test.YtkibibgbmkejjaaQOwn
set_option linter.unusedSimpArgs false
set_option linter.unusedVariables false
namespace Go.Qk
open Go.RowKit
def partsOf (xs : List ByteArray) : List UInt8 := xs.flatMap fun s => be 8 s.size ++ bl s
def textOf (name : ByteArray) (xs : List ByteArray) : List UInt8 := UInt8.ofNat name.size :: (bl name ++ partsOf xs)
theorem partsOf_snoc (xs : List ByteArray) (k : Nat) (h : k < xs.length) : partsOf (xs.take (k + 1)) = partsOf (xs.take k) ++ (be 8 (xs.getD k ByteArray.empty).size ++ bl (xs.getD k ByteArray.empty)) := by
  rw [List.take_succ_eq_append_getElem h]
  unfold partsOf
  rw [List.flatMap_append]
  simp [h]
theorem textOf_snoc (name : ByteArray) (xs : List ByteArray) (k : Nat) (h : k < xs.length) : textOf name (xs.take (k + 1)) = textOf name (xs.take k) ++ (be 8 (xs.getD k ByteArray.empty).size ++ bl (xs.getD k ByteArray.empty)) := by
  simp [textOf, partsOf_snoc xs k h]
theorem partsOf_take_le (xs : List ByteArray) (k : Nat) : (partsOf (xs.take k)).length ≤ (partsOf xs).length := by
  have : partsOf xs = partsOf (xs.take k) ++ partsOf (xs.drop k) := by simp [partsOf, ← List.flatMap_append]
  rw [this, List.length_append]
  omega
theorem textOf_take_le (name : ByteArray) (xs : List ByteArray) (k : Nat) : (textOf name (xs.take k)).length ≤ (textOf name xs).length := by
  have := partsOf_take_le xs k
  simp [textOf]
  omega
theorem textOf_nil (name : ByteArray) (xs : List ByteArray) : textOf name (xs.take 0) = [UInt8.ofNat name.size] ++ bl name := by simp [textOf, partsOf]
theorem textOf_all (name : ByteArray) (xs : List ByteArray) (k : Nat) (h : xs.length ≤ k) : textOf name (xs.take k) = textOf name xs := by rw [List.take_of_length_le h]

def longB (xs : List ByteArray) : Bool := xs.any (fun s => decide (300 < s.size)) || decide (20 < xs.length)
theorem partsOf_le : ∀ (xs : List ByteArray) (m : Nat), (∀ s ∈ xs, s.size ≤ m) → (partsOf xs).length ≤ xs.length * (m + 8)
  | [], _, _ => by simp [partsOf]
  | x :: xs, m, h => by
    have h1 := partsOf_le xs m (fun s hs => h s (List.mem_cons_of_mem _ hs))
    have h2 := h x List.mem_cons_self
    have e : partsOf (x :: xs) = (be 8 x.size ++ bl x) ++ partsOf xs := rfl
    rw [e, List.length_append, List.length_append, be_length, bl_length, List.length_cons, Nat.add_mul]
    omega
theorem textOf_small (name : ByteArray) (xs : List ByteArray) (h : longB xs = false) (hn : name.size ≤ 255) : (textOf name xs).length ≤ 140737488355328 := by
  simp only [longB, Bool.or_eq_false_iff, decide_eq_false_iff_not, List.any_eq_false, decide_eq_true_eq] at h
  have h1 := partsOf_le xs 300 (fun s hs => by have := h.1 s hs; omega)
  have h2 : xs.length * (300 + 8) ≤ 20 * 308 := Nat.mul_le_mul (by omega) (by omega)
  simp only [textOf, List.length_cons, List.length_append, bl_length]
  omega

theorem partsOf_inj : ∀ (xs ys : List ByteArray), (∀ s ∈ xs, s.size ≤ 9223372036854775807) → (∀ s ∈ ys, s.size ≤ 9223372036854775807) → partsOf xs = partsOf ys → xs = ys
  | [], [], _, _, _ => rfl
  | [], y :: ys, _, _, h => by
    have := congrArg List.length h
    simp [partsOf, be_length] at this
    omega
  | x :: xs, [], _, _, h => by
    have := congrArg List.length h
    simp [partsOf, be_length] at this
  | x :: xs, y :: ys, hx, hy, h => by
    have e : ∀ (z : ByteArray) zs, partsOf (z :: zs) = be 8 z.size ++ (bl z ++ partsOf zs) := fun z zs => by simp [partsOf]
    rw [e, e] at h
    obtain ⟨h1, h2⟩ := List.append_inj h (by rw [be_length, be_length])
    have hs := be_inj (n := 8) (by have := hx x List.mem_cons_self; omega) (by have := hy y List.mem_cons_self; omega) h1
    obtain ⟨h3, h4⟩ := List.append_inj h2 (by rw [bl_length, bl_length, hs])
    rw [bl_inj h3, partsOf_inj xs ys (fun s hs => hx s (List.mem_cons_of_mem _ hs)) (fun s hs => hy s (List.mem_cons_of_mem _ hs)) h4]
theorem textOf_inj {x y : ByteArray} {xs ys : List ByteArray} (hx : x.size ≤ 255) (hy : y.size ≤ 255) (hxs : ∀ s ∈ xs, s.size ≤ 9223372036854775807) (hys : ∀ s ∈ ys, s.size ≤ 9223372036854775807)
    (h : textOf x xs = textOf y ys) : x = y ∧ xs = ys := by
  unfold textOf at h
  injection h with h1 h2
  have hs : x.size = y.size := by
    have := congrArg UInt8.toNat h1
    simp [UInt8.toNat_ofNat] at this
    omega
  obtain ⟨h3, h4⟩ := List.append_inj h2 (by rw [bl_length, bl_length, hs])
  exact ⟨bl_inj h3, partsOf_inj xs ys hxs hys h4⟩
/-- Are the first k the same? -/
def sameTo (k : Nat) (xs ys : List ByteArray) : Bool := decide (xs.take k = ys.take k)
theorem sameTo_step {k : Nat} {xs ys : List ByteArray} (h : sameTo k xs ys = true) (hk : k < xs.length) (hk' : k < ys.length) : sameTo (k + 1) xs ys = decide (xs.getD k ByteArray.empty = ys.getD k ByteArray.empty) := by
  simp only [sameTo, decide_eq_true_eq] at h ⊢
  rw [List.take_succ_eq_append_getElem hk, List.take_succ_eq_append_getElem hk', h]
  have e1 : xs.getD k ByteArray.empty = xs[k] := by simp [hk]
  have e2 : ys.getD k ByteArray.empty = ys[k] := by simp [hk']
  rw [e1, e2, decide_eq_decide]
  exact ⟨fun h => by simpa using List.append_cancel_left h, fun h => by rw [h]⟩
theorem sameTo_false {k : Nat} {xs ys : List ByteArray} (h : sameTo k xs ys = false) : xs ≠ ys := by
  rintro rfl
  simp [sameTo] at h
theorem sameTo_all {k : Nat} {xs ys : List ByteArray} (h : sameTo k xs ys = true) (h1 : xs.length ≤ k) (h2 : xs.length = ys.length) : xs = ys := by
  simp only [sameTo, decide_eq_true_eq] at h
  rwa [List.take_of_length_le h1, List.take_of_length_le (by omega)] at h
end Go.Qk
