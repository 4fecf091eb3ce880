/- Rows that are folded: plain facts. -/
import Derived.Test.YtabkaflccaklhaaGreatQLamp1
set_option linter.unusedSimpArgs false
set_option linter.unusedVariables false
namespace Go.Proofs.YtabkaflccaklhaaGreat
open Go.RowKit
open Go.Qk hiding rotr b4
abbrev IdK := List UInt8
def nodeName : ByteArray := ⟨#[110, 111, 100, 101]⟩
def nd (a b : IdK) : IdK := pairOf nodeName a b
theorem nd_length (a b : IdK) : (nd a b).length = 32 := pairOf_length _ _ _
/-- The row above. -/
def upG (xs : List IdK) (i : Nat) : IdK := nd (xs.getD (2 * i) []) (xs.getD (2 * i + 1) [])
def upRow (xs : List IdK) : List IdK := (List.range (xs.length / 2)).map (upG xs)
theorem upRow_length (xs : List IdK) : (upRow xs).length = xs.length / 2 := by simp [upRow]
theorem upRow_32 (xs : List IdK) : ∀ s ∈ upRow xs, s.length = 32 := by
  intro s hs
  obtain ⟨i, _, rfl⟩ := List.mem_map.1 hs
  exact nd_length _ _
theorem upRow_get (xs : List IdK) (i : Nat) (h : i < xs.length / 2) : (upRow xs).getD i [] = upG xs i := by simp [upRow, h]
def foldRows : Nat → List IdK → List (List IdK)
  | 0, xs => [xs]
  | h + 1, xs => xs :: foldRows h (upRow xs)
def upN : Nat → List IdK → List IdK
  | 0, xs => xs
  | k + 1, xs => upN k (upRow xs)
theorem upN_succ : ∀ (k : Nat) (xs : List IdK), upN (k + 1) xs = upRow (upN k xs)
  | 0, xs => rfl
  | k + 1, xs => by
    show upN (k + 1) (upRow xs) = upRow (upN k (upRow xs))
    exact upN_succ k (upRow xs)
theorem upN_length : ∀ (k h : Nat) (xs : List IdK), xs.length = 2 ^ (h + k) → (upN k xs).length = 2 ^ h
  | 0, h, xs, hl => hl
  | k + 1, h, xs, hl => upN_length k h (upRow xs) (by rw [upRow_length, hl, show h + (k + 1) = (h + k) + 1 by omega, Nat.pow_succ]; omega)
theorem upN_32 : ∀ (k : Nat) (xs : List IdK), (∀ s ∈ xs, s.length = 32) → ∀ s ∈ upN k xs, s.length = 32
  | 0, xs, h => h
  | k + 1, xs, _ => upN_32 k (upRow xs) (upRow_32 xs)
def foldTop (h : Nat) (xs : List IdK) : IdK := (upN h xs).getD 0 []
/-- By halves. -/
def foldRef : Nat → List IdK → IdK
  | 0, xs => xs.getD 0 []
  | h + 1, xs => nd (foldRef h (xs.take (2 ^ h))) (foldRef h (xs.drop (2 ^ h)))
theorem getD_take (xs : List IdK) (i n : Nat) (h : i < n) : (xs.take n).getD i [] = xs.getD i [] := by
  simp [List.getD_eq_getElem?_getD, List.getElem?_take, h]
theorem getD_drop (xs : List IdK) (i n : Nat) : (xs.drop n).getD i [] = xs.getD (n + i) [] := by
  simp [List.getD_eq_getElem?_getD, List.getElem?_drop]
theorem ext_getD {xs ys : List IdK} (hl : xs.length = ys.length) (h : ∀ i, i < xs.length → xs.getD i [] = ys.getD i []) : xs = ys := by
  apply List.ext_getElem hl
  intro i h1 h2
  have := h i h1
  simpa [h1, h2] using this
theorem upRow_take (xs : List IdK) (n : Nat) (h : 2 * n ≤ xs.length) : upRow (xs.take (2 * n)) = (upRow xs).take n := by
  refine ext_getD (by rw [upRow_length, List.length_take, List.length_take, upRow_length]; omega) fun i hi => ?_
  rw [upRow_length, List.length_take] at hi
  rw [upRow_get _ _ (by rw [List.length_take]; omega), getD_take _ _ _ (by omega), upRow_get _ _ (by omega)]
  unfold upG
  rw [getD_take _ _ _ (by omega), getD_take _ _ _ (by omega)]
theorem upRow_drop (xs : List IdK) (n : Nat) (h : 2 * n ≤ xs.length) : upRow (xs.drop (2 * n)) = (upRow xs).drop n := by
  refine ext_getD (by rw [upRow_length, List.length_drop, List.length_drop, upRow_length]; omega) fun i hi => ?_
  rw [upRow_length, List.length_drop] at hi
  rw [upRow_get _ _ (by rw [List.length_drop]; omega), getD_drop, upRow_get _ _ (by omega)]
  unfold upG
  rw [getD_drop, getD_drop, show 2 * n + (2 * i + 1) = 2 * (n + i) + 1 by omega, show 2 * n + 2 * i = 2 * (n + i) by omega]
theorem foldTop_half : ∀ (h : Nat) (xs : List IdK), xs.length = 2 ^ (h + 1) → foldTop (h + 1) xs = nd (foldTop h (xs.take (2 ^ h))) (foldTop h (xs.drop (2 ^ h)))
  | 0, xs, hl => by
    show (upRow xs).getD 0 [] = nd ((xs.take 1).getD 0 []) ((xs.drop 1).getD 0 [])
    rw [upRow_get _ _ (by rw [hl]; decide), getD_take _ _ _ (by omega), getD_drop]
    rfl
  | h + 1, xs, hl => by
    have e : 2 ^ (h + 1) = 2 * 2 ^ h := by rw [Nat.pow_succ]; omega
    have hl' : xs.length = 2 * (2 * 2 ^ h) := by rw [hl, Nat.pow_succ, e]; omega
    have ih := foldTop_half h (upRow xs) (by rw [upRow_length, hl', e]; omega)
    show foldTop (h + 1) (upRow xs) = nd (foldTop h (upRow (xs.take (2 ^ (h + 1))))) (foldTop h (upRow (xs.drop (2 ^ (h + 1)))))
    rw [ih, e, upRow_take _ _ (by omega), upRow_drop _ _ (by omega)]
theorem foldRef_top : ∀ (h : Nat) (xs : List IdK), xs.length = 2 ^ h → foldRef h xs = foldTop h xs
  | 0, _, _ => rfl
  | h + 1, xs, hl => by
    have e : 2 ^ (h + 1) = 2 * 2 ^ h := by rw [Nat.pow_succ]; omega
    rw [foldTop_half h xs hl, ← foldRef_top h _ (by rw [List.length_take]; omega), ← foldRef_top h _ (by rw [List.length_drop]; omega)]
    rfl
theorem foldTop_32 (h : Nat) (xs : List IdK) (hl : xs.length = 2 ^ h) (h32 : ∀ s ∈ xs, s.length = 32) : (foldTop h xs).length = 32 := by
  have h1 := upN_length h 0 xs (by rw [hl, Nat.zero_add])
  exact upN_32 h xs h32 _ (by
    have : 0 < (upN h xs).length := by rw [h1]; decide
    simp [foldTop, List.getD_eq_getElem?_getD, this])
theorem foldRows_get : ∀ (h : Nat) (xs : List IdK) (k : Nat), k ≤ h → (foldRows h xs).getD k [] = upN k xs
  | 0, xs, k, hk => by obtain rfl : k = 0 := by omega
                       rfl
  | h + 1, xs, 0, _ => rfl
  | h + 1, xs, k + 1, hk => by
    show (foldRows h (upRow xs)).getD k [] = upN k (upRow xs)
    exact foldRows_get h (upRow xs) k (by omega)
theorem foldRows_length : ∀ (h : Nat) (xs : List IdK), (foldRows h xs).length = h + 1
  | 0, _ => rfl
  | h + 1, xs => by simp [foldRows, foldRows_length h (upRow xs)]
/-- A seed's sums. -/
def nodeOf (seed : ByteArray) (bits : Nat) : Nat → Nat → IdK
  | 0, i => leafOf seed i bits
  | l + 1, i => nd (nodeOf seed bits l (2 * i)) (nodeOf seed bits l (2 * i + 1))
theorem nodeOf_length (seed : ByteArray) (bits : Nat) : ∀ l i, (nodeOf seed bits l i).length = 32
  | 0, i => leafOf_length _ _ _
  | l + 1, i => nd_length _ _
def leafRow (seed : ByteArray) (bits n : Nat) : List IdK := (List.range n).map fun (i : Nat) => leafOf seed i bits
theorem upN_node (seed : ByteArray) (bits : Nat) : ∀ (k n : Nat), upN k ((List.range (2 ^ k * n)).map (nodeOf seed bits 0)) = (List.range n).map (nodeOf seed bits k)
  | 0, n => by simp [upN]
  | k + 1, n => by
    rw [upN_succ, show 2 ^ (k + 1) * n = 2 ^ k * (2 * n) by rw [Nat.pow_succ, Nat.mul_assoc], upN_node seed bits k (2 * n)]
    refine ext_getD (by rw [upRow_length]; simp) fun i hi => ?_
    rw [upRow_length] at hi
    have hi' : i < n := by simp at hi; omega
    rw [upRow_get _ _ hi]
    simp [upG, show 2 * i < 2 * n by omega, show 2 * i + 1 < 2 * n by omega, hi', nodeOf]
theorem foldTop_node (seed : ByteArray) (bits h : Nat) : foldTop h (leafRow seed bits (2 ^ h)) = nodeOf seed bits h 0 := by
  have := upN_node seed bits h 1
  rw [Nat.mul_one] at this
  unfold foldTop leafRow
  have e : (fun i : Nat => leafOf seed i bits) = nodeOf seed bits 0 := by funext i; rfl
  rw [e, this]
  rfl
/-- What a way leads to. -/
def climbTo : Nat → IdK → List IdK → IdK
  | _, sum, [] => sum
  | leaf, sum, side :: way => climbTo (leaf / 2) (if leaf % 2 = 1 then nd side sum else nd sum side) way
theorem climbTo_length : ∀ (way : List IdK) (leaf : Nat) (sum : IdK), sum.length = 32 → (climbTo leaf sum way).length = 32
  | [], _, _, h => h
  | _ :: way, leaf, _, _ => climbTo_length way _ _ (by split <;> exact nd_length _ _)
theorem climbTo_snoc : ∀ (way : List IdK) (leaf : Nat) (sum side : IdK), climbTo leaf sum (way ++ [side]) = if leaf / 2 ^ way.length % 2 = 1 then nd side (climbTo leaf sum way) else nd (climbTo leaf sum way) side
  | [], leaf, sum, side => by simp [climbTo]
  | x :: way, leaf, sum, side => by
    rw [List.cons_append]
    have e : leaf / 2 ^ (x :: way).length = leaf / 2 / 2 ^ way.length := by rw [List.length_cons, Nat.div_div_eq_div_mul, Nat.pow_succ, Nat.mul_comm]
    rw [e]
    simp only [climbTo]
    exact climbTo_snoc way _ _ _
def beside (n : Nat) : Nat := if n % 2 = 1 then n - 1 else n + 1
def wayOf (seed : ByteArray) (bits h leaf : Nat) : List IdK := (List.range h).map fun l => nodeOf seed bits l (beside (leaf / 2 ^ l))
theorem wayOf_succ (seed : ByteArray) (bits h leaf : Nat) : wayOf seed bits (h + 1) leaf = wayOf seed bits h leaf ++ [nodeOf seed bits h (beside (leaf / 2 ^ h))] := by simp [wayOf, List.range_succ]
theorem wayOf_length (seed : ByteArray) (bits h leaf : Nat) : (wayOf seed bits h leaf).length = h := by simp [wayOf]
theorem climb_way (seed : ByteArray) (bits leaf : Nat) : ∀ h, climbTo leaf (leafOf seed leaf bits) (wayOf seed bits h leaf) = nodeOf seed bits h (leaf / 2 ^ h)
  | 0 => by simp [wayOf, climbTo, nodeOf]
  | h + 1 => by
    rw [wayOf_succ, climbTo_snoc, climb_way seed bits leaf h, wayOf_length]
    have e : leaf / 2 ^ (h + 1) = leaf / 2 ^ h / 2 := by rw [Nat.pow_succ, Nat.div_div_eq_div_mul]
    rw [e]
    generalize leaf / 2 ^ h = x
    unfold beside
    by_cases h1 : x % 2 = 1
    · rw [if_pos h1, if_pos h1]
      simp only [nodeOf]
      rw [show 2 * (x / 2) = x - 1 by omega, show x - 1 + 1 = x by omega]
    · rw [if_neg h1, if_neg h1]
      simp only [nodeOf]
      rw [show 2 * (x / 2) = x by omega]
theorem climb_root (seed : ByteArray) (bits leaf h : Nat) (hl : leaf < 2 ^ h) : climbTo leaf (leafOf seed leaf bits) (wayOf seed bits h leaf) = nodeOf seed bits h 0 := by
  rw [climb_way, Nat.div_eq_of_lt hl]
end Go.Proofs.YtabkaflccaklhaaGreat
