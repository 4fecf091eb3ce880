/- Numbers as bytes; bytes and strings. -/
import Derived.Test.YtkibibgbmkejjaaQBase
import Derived.Laws.BytesArg
set_option linter.unusedSimpArgs false
set_option linter.unusedVariables false
namespace Go.Qk
open Go.RowKit

/-- A string out of bytes, and back. -/
def bs (l : List UInt8) : ByteArray := ⟨l.toArray⟩
def bl (s : ByteArray) : List UInt8 := s.data.toList
theorem bl_bs (l : List UInt8) : bl (bs l) = l := by simp [bl, bs]
theorem bs_bl (s : ByteArray) : bs (bl s) = s := by cases s; simp [bl, bs]
theorem bs_size (l : List UInt8) : (bs l).size = l.length := by show l.toArray.size = l.length; simp
theorem bl_length (s : ByteArray) : (bl s).length = s.size := by unfold bl; rw [Array.length_toList]; rfl
theorem bs_append (l m : List UInt8) : bs l ++ bs m = bs (l ++ m) := by
  apply ByteArray.ext
  simp [bs]
theorem bs_extract (l : List UInt8) (i j : Nat) : (bs l).extract i j = bs ((l.drop i).take (j - i)) := by
  apply ByteArray.ext
  rw [ByteArray.data_extract]
  apply Array.ext'
  rw [Array.toList_extract]
  simp [bs, List.extract_eq_take_drop]
theorem bs_inj {l m : List UInt8} (h : bs l = bs m) : l = m := by rw [← bl_bs l, h, bl_bs]
theorem bl_inj {s t : ByteArray} (h : bl s = bl t) : s = t := by rw [← bs_bl s, h, bs_bl]
theorem bl_append (s t : ByteArray) : bl (s ++ t) = bl s ++ bl t := by
  rw [← bs_bl s, ← bs_bl t, bs_append, bl_bs, bl_bs, bl_bs]

theorem toList_bl (s : ByteArray) : s.toList = bl s := ByteArray.toList_eq s
theorem toList_ne {s t : ByteArray} (h : s ≠ t) : ¬ s.toList = t.toList := by rw [toList_bl, toList_bl]; exact fun e => h (bl_inj e)
theorem toList_beq_ne {s t : ByteArray} (h : s ≠ t) : (s.toList == t.toList) = false := beq_eq_false_iff_ne.2 (toList_ne h)
/-- The last n bytes of a number, the highest first. -/
def be : Nat → Nat → List UInt8
  | 0, _ => []
  | n + 1, v => be n (v / 256) ++ [UInt8.ofNat (v % 256)]
theorem be_length : ∀ n v, (be n v).length = n
  | 0, _ => rfl
  | n + 1, v => by simp [be, be_length n]
theorem be_cons : ∀ n v, be (n + 1) v = UInt8.ofNat (v / 256 ^ n % 256) :: be n v
  | 0, v => by simp [be]
  | n + 1, v => by
    rw [be, be_cons n (v / 256), Nat.div_div_eq_div_mul, be]
    rw [show 256 * 256 ^ n = 256 ^ (n + 1) from by rw [Nat.pow_succ, Nat.mul_comm]]
    rfl
theorem be_val : ∀ n v, v < 256 ^ n → (be n v).foldl (fun x b => x * 256 + b.toNat) 0 = v
  | 0, v, h => by simp at h; subst h; rfl
  | n + 1, v, h => by
    have h1 : v / 256 < 256 ^ n := by rw [Nat.div_lt_iff_lt_mul (by omega)]; rwa [Nat.pow_succ] at h
    rw [be, List.foldl_append, be_val n _ h1]
    simp
    omega
theorem be_inj {n v u : Nat} (hv : v < 256 ^ n) (hu : u < 256 ^ n) (h : be n v = be n u) : v = u := by
  rw [← be_val n v hv, h, be_val n u hu]
/-- What stands in the row when k bytes are still to be written. -/
def beRow (k v : Nat) : List UInt8 := List.replicate k 0 ++ be (8 - k) v
theorem beRow_length (k v : Nat) (h : k ≤ 8) : (beRow k v).length = 8 := by simp [beRow, be_length]; omega
theorem beRow_start (v : Nat) : beRow 8 v = [0, 0, 0, 0, 0, 0, 0, 0] := rfl
theorem beRow_end (v : Nat) : beRow 0 v = be 8 v := rfl
theorem u8_of (x : Nat) (h : x < 256) : ((UInt8.ofNat x).toNat : Int) = x := by simp [UInt8.toNat_ofNat]; omega
theorem beRow_step (k v : Nat) (h : k < 8) : (u8s (beRow (k + 1) v)).toArray.setIfInBounds k (.int .u8 (((v / 256 ^ (7 - k) % 256 : Nat) : Int))) = (u8s (beRow k v)).toArray := by
  have h1 : beRow k v = List.replicate k 0 ++ UInt8.ofNat (v / 256 ^ (7 - k) % 256) :: be (7 - k) v := by
    rw [beRow, show 8 - k = (7 - k) + 1 from by omega, be_cons]
  have h2 : beRow (k + 1) v = List.replicate k 0 ++ 0 :: be (7 - k) v := by
    rw [beRow, show 8 - (k + 1) = 7 - k from by omega, List.replicate_succ']
    simp
  rw [h1, h2, ← u8_of _ (Nat.mod_lt _ (by omega))]
  simp [u8s]

section
variable {P : Program} (w : World)
theorem strOfNums_b8 (l : List UInt8) : strOfNums ((List.range l.length).map (b8 l)) = bs l := by
  unfold strOfNums bs
  congr 1
  apply congrArg
  apply List.ext_getElem?
  intro i
  by_cases h : i < l.length
  · simp [b8, h]
  · simp [List.getElem?_eq_none (show l.length ≤ i by omega)]
    omega
theorem run_str (src e dst : TypeId) (hs : P.underlying src = some (.slice e)) (he : P.underlying e = some (.int .u8)) (hd : P.underlying dst = some .string) (g off cap : Nat) (l : List UInt8)
    (hcell : ∀ i, i < l.length → w.cell? ⟨g, off + i, none⟩ = some (.int .u8 (b8 l i))) (n : Nat) (hn : l.length = n) : (convert src dst (.slice (some ⟨g, off, none⟩) n cap)).run P w = .ok (.string (bs l)) w := by
  subst hn
  have := run_convert_bytes_arg (P := P) w src e hs he g off l.length cap ((List.range l.length).map (b8 l)) (by simp) (fun i hi => by
    rw [hcell i hi]
    simp [hi]) dst hd
  rw [strOfNums_b8] at this
  exact this
/-- The bytes at the head of a block. -/
theorem run_str_block (src e dst t : TypeId) (hs : P.underlying src = some (.slice e)) (he : P.underlying e = some (.int .u8)) (hd : P.underlying dst = some .string) (g cap : Nat) (l : List UInt8) (fr : Nat × Nat)
    (hg : w.heap[g]? = some (.cells (u8s l).toArray t fr)) (n : Nat) (hn : l.length = n) : (convert src dst (.slice (some ⟨g, 0, none⟩) n cap)).run P w = .ok (.string (bs l)) w :=
  run_str w src e dst hs he hd g 0 cap l (fun i hi => by
    rw [cell_of_row w g (0 + i) _ t fr hg, Nat.zero_add]
    simpa using u8s_get l i hi) n hn
end
end Go.Qk
