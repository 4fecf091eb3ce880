/- Words of 32 bits, as the walk has them. -/
import Derived.Test.YtkibibgbmkejjaaQOwn
set_option linter.unusedSimpArgs false
set_option linter.unusedVariables false
namespace Go.Qk
open Go.RowKit

def w32 (x : UInt32) : Int := (x.toNat : Int)
theorem w32_lo (x : UInt32) : 0 ≤ w32 x := by unfold w32; omega
theorem w32_hi (x : UInt32) : w32 x < 4294967296 := by unfold w32; have := x.toNat_lt; omega
theorem w32_nat (x : UInt32) : ((w32 x).toNat : Nat) = x.toNat := by unfold w32; simp
theorem w32_inj {x y : UInt32} (h : w32 x = w32 y) : x = y := by unfold w32 at h; exact UInt32.toNat_inj.1 (by omega)
theorem w32_ofInt (x : UInt32) : BitVec.ofInt 32 (w32 x) = x.toBitVec := by
  apply BitVec.eq_of_toNat_eq
  simp [w32, BitVec.toNat_ofInt]
theorem wrap_u32 (n : Nat) (h : n < 4294967296) : IntKind.u32.wrap (n : Int) = n := by
  simp [IntKind.wrap, IntKind.signed, IntKind.bits]
  omega
theorem add_w32 (x y : UInt32) : Op.intArith .add .u32 (w32 x) (w32 y) = pure (.int .u32 (w32 (x + y))) := by
  simp [Op.intArith, IntKind.wrap, IntKind.signed, IntKind.bits, w32, UInt32.toNat_add]
theorem and_w32 (x y : UInt32) : Op.intBits .and .u32 (w32 x) (w32 y) = pure (.int .u32 (w32 (x &&& y))) := by
  have e : Op.intBits .and .u32 (w32 x) (w32 y) = pure (.int .u32 (IntKind.u32.wrap (((x.toBitVec &&& y.toBitVec).toNat : Nat) : Int))) := by
    simp only [Op.intBits, IntKind.bits, w32_ofInt]
    rfl
  rw [e]
  show pure (Value.int .u32 (IntKind.u32.wrap (((x &&& y).toNat : Nat) : Int))) = _
  rw [wrap_u32 _ (x &&& y).toNat_lt]
  rfl
theorem or_w32 (x y : UInt32) : Op.intBits .or .u32 (w32 x) (w32 y) = pure (.int .u32 (w32 (x ||| y))) := by
  have e : Op.intBits .or .u32 (w32 x) (w32 y) = pure (.int .u32 (IntKind.u32.wrap (((x.toBitVec ||| y.toBitVec).toNat : Nat) : Int))) := by
    simp only [Op.intBits, IntKind.bits, w32_ofInt]
    rfl
  rw [e]
  show pure (Value.int .u32 (IntKind.u32.wrap (((x ||| y).toNat : Nat) : Int))) = _
  rw [wrap_u32 _ (x ||| y).toNat_lt]
  rfl
theorem xor_w32 (x y : UInt32) : Op.intBits .xor .u32 (w32 x) (w32 y) = pure (.int .u32 (w32 (x ^^^ y))) := by
  have e : Op.intBits .xor .u32 (w32 x) (w32 y) = pure (.int .u32 (IntKind.u32.wrap (((x.toBitVec ^^^ y.toBitVec).toNat : Nat) : Int))) := by
    simp only [Op.intBits, IntKind.bits, w32_ofInt]
    rfl
  rw [e]
  show pure (Value.int .u32 (IntKind.u32.wrap (((x ^^^ y).toNat : Nat) : Int))) = _
  rw [wrap_u32 _ (x ^^^ y).toNat_lt]
  rfl
theorem shr_w32 (yk : IntKind) (x : UInt32) (n : Nat) (hn : n < 32) : Op.shift .shr .u32 (w32 x) yk (n : Int) = pure (.int .u32 (w32 (x >>> UInt32.ofNat n))) := by
  have e : min n 32 = n := by omega
  simp [Op.shift, IntKind.bits, e]
  simp [w32, UInt32.toNat_shiftRight, Nat.shiftRight_eq_div_pow, Nat.mod_eq_of_lt (show n < 4294967296 by omega), Nat.mod_eq_of_lt hn]
theorem shl_w32 (yk : IntKind) (x : UInt32) (n : Nat) (hn : n < 32) : Op.shift .shl .u32 (w32 x) yk (n : Int) = pure (.int .u32 (w32 (x <<< UInt32.ofNat n))) := by
  have e : min n 32 = n := by omega
  simp [Op.shift, IntKind.bits, e]
  simp [w32, UInt32.toNat_shiftLeft, Nat.shiftLeft_eq, IntKind.wrap, IntKind.signed, IntKind.bits, Nat.mod_eq_of_lt (show n < 4294967296 by omega), Nat.mod_eq_of_lt hn]
theorem shr3_w32 (yk : IntKind) (x : UInt32) : Op.shift .shr .u32 (w32 x) yk 3 = pure (.int .u32 (w32 (x >>> 3))) := shr_w32 yk x 3 (by omega)
theorem shr10_w32 (yk : IntKind) (x : UInt32) : Op.shift .shr .u32 (w32 x) yk 10 = pure (.int .u32 (w32 (x >>> 10))) := shr_w32 yk x 10 (by omega)
theorem shr8_w32 (yk : IntKind) (x : UInt32) : Op.shift .shr .u32 (w32 x) yk 8 = pure (.int .u32 (w32 (x >>> 8))) := shr_w32 yk x 8 (by omega)
theorem shr16_w32 (yk : IntKind) (x : UInt32) : Op.shift .shr .u32 (w32 x) yk 16 = pure (.int .u32 (w32 (x >>> 16))) := shr_w32 yk x 16 (by omega)
theorem shr24_w32 (yk : IntKind) (x : UInt32) : Op.shift .shr .u32 (w32 x) yk 24 = pure (.int .u32 (w32 (x >>> 24))) := shr_w32 yk x 24 (by omega)
theorem shl8_w32 (yk : IntKind) (x : UInt32) : Op.shift .shl .u32 (w32 x) yk 8 = pure (.int .u32 (w32 (x <<< 8))) := shl_w32 yk x 8 (by omega)
theorem ones_xor (x : UInt32) : (4294967295 : UInt32) ^^^ x = ~~~x := by
  apply UInt32.toBitVec_inj.1
  show (4294967295#32) ^^^ x.toBitVec = ~~~x.toBitVec
  rw [show (4294967295#32) = BitVec.allOnes 32 from by decide, BitVec.allOnes_xor]
theorem not_w32 (x : UInt32) : Op.unary .xor (.int .u32 (w32 x)) = pure (.int .u32 (w32 (~~~x))) := by
  rw [unary_xor, ← ones_xor, ← xor_w32]
  rfl
theorem max_xor_w32 (x : UInt32) : Op.intBits .xor .u32 IntKind.u32.max (w32 x) = pure (.int .u32 (w32 (~~~x))) := by
  rw [← ones_xor, ← xor_w32]
  rfl
def u32s (l : List UInt32) : List Value := l.map fun x => .int .u32 (w32 x)
theorem u32s_length (l : List UInt32) : (u32s l).length = l.length := by simp [u32s]
theorem u32s_get (l : List UInt32) (k : Nat) (h : k < l.length) : (u32s l)[k]? = some (.int .u32 (w32 (l.getD k 0))) := by
  simp [u32s, List.getElem?_eq_getElem h, h]
theorem u32s_append (l m : List UInt32) : u32s (l ++ m) = u32s l ++ u32s m := by simp [u32s]
theorem u32s_one (l : List UInt32) : ∀ u ∈ u32s l, u.oneCell' = true := by
  intro u hu
  obtain ⟨b, _, rfl⟩ := List.mem_map.1 hu
  rfl
/-- A word out of bytes, the highest first: j of four are in. -/
def wAt (l : List UInt8) (i : Nat) : Nat → UInt32
  | 0 => 0
  | j + 1 => (wAt l i j <<< 8) ||| UInt32.ofNat (l.getD (4 * i + j) 0).toNat
def wordsOf (l : List UInt8) (n : Nat) : List UInt32 := (List.range n).map fun i => wAt l i 4
theorem wordsOf_length (l : List UInt8) (n : Nat) : (wordsOf l n).length = n := by simp [wordsOf]
theorem wordsOf_succ (l : List UInt8) (n : Nat) : wordsOf l (n + 1) = wordsOf l n ++ [wAt l n 4] := by simp [wordsOf, List.range_succ]
theorem byte_w32 (b : UInt8) : w32 (UInt32.ofNat b.toNat) = (b.toNat : Int) := by
  have := b.toNat_lt
  simp [w32, UInt32.toNat_ofNat]
theorem cell_u32 {w w' : World} {g : Nat} {l : List UInt32} {t : TypeId} (h : w.heap[g]? = some (.cells (u32s l).toArray t (0, 0))) (hg : Grow w w') (k : Nat) (hk : k < l.length) :
    w'.cell? ⟨g, k, none⟩ = some (.int .u32 (w32 (l.getD k 0))) := by
  rw [cell_of_row w' g k _ t (0, 0) (grow_block h hg)]
  simpa using u32s_get l k hk
end Go.Qk
