import Derived.Test.YtkibibgbmkejjaaQRefC
set_option linter.unusedSimpArgs false
set_option linter.unusedVariables false
namespace Go.Proofs.Ytkibibgbmkejjaa
open Go.RowKit
open Go.Qk hiding rotr b4
theorem shl8_or (x : UInt32) (n : Nat) (hx : x.toNat < 16777216) (hn : n < 256) : ((x <<< 8) ||| UInt32.ofNat n).toNat = 256 * x.toNat + n := by
  have h1 : (UInt32.ofNat n).toNat = n := by simp [UInt32.toNat_ofNat]; omega
  have h2 : (x <<< 8).toNat = x.toNat * 2 ^ 8 := by
    simp [UInt32.toNat_shiftLeft, Nat.shiftLeft_eq]
    omega
  rw [UInt32.toNat_or, h1, h2, Nat.mul_comm, ← Nat.two_pow_add_eq_or_of_lt (show n < 2 ^ 8 by omega)]
theorem wAt_val (b : List UInt8) (k j : Nat) (hj : j ≤ 4) (h : 4 * k + j ≤ b.length) : (wAt b k j).toNat = val ((b.drop (4 * k)).take j) := by
  induction j with
  | zero => rfl
  | succ j ih =>
    have e := ih (by omega) (by omega)
    have hl := val_lt (b.drop (4 * k)) j
    have h3 : 256 ^ j ≤ 256 ^ 3 := Nat.pow_le_pow_right (by omega) (by omega)
    have hlt := (b.getD (4 * k + j) 0).toNat_lt
    rw [val_snoc _ _ (by rw [List.length_drop]; omega), ← e]
    show ((wAt b k j <<< 8) ||| UInt32.ofNat (b.getD (4 * k + j) 0).toNat).toNat = _
    rw [shl8_or _ _ (by omega) (by omega)]
    congr 1
    simp
theorem ch_or (e f g : UInt32) : (e &&& f) ||| (~~~e &&& g) = (e &&& f) ^^^ (~~~e &&& g) := by
  apply UInt32.toBitVec_inj.1
  simp only [UInt32.toBitVec_or, UInt32.toBitVec_and, UInt32.toBitVec_not, UInt32.toBitVec_xor]
  apply BitVec.eq_of_getLsbD_eq
  intro i hi
  simp only [BitVec.getLsbD_or, BitVec.getLsbD_and, BitVec.getLsbD_not, BitVec.getLsbD_xor, hi, decide_true]
  cases e.toBitVec.getLsbD i <;> cases f.toBitVec.getLsbD i <;> cases g.toBitVec.getLsbD i <;> rfl
theorem maj_or (a b c : UInt32) : (a &&& b) ||| (a &&& c) ||| (b &&& c) = (a &&& b) ^^^ (a &&& c) ^^^ (b &&& c) := by
  apply UInt32.toBitVec_inj.1
  simp only [UInt32.toBitVec_or, UInt32.toBitVec_and, UInt32.toBitVec_not, UInt32.toBitVec_xor]
  apply BitVec.eq_of_getLsbD_eq
  intro i hi
  simp only [BitVec.getLsbD_or, BitVec.getLsbD_and, BitVec.getLsbD_not, BitVec.getLsbD_xor]
  cases a.toBitVec.getLsbD i <;> cases b.toBitVec.getLsbD i <;> cases c.toBitVec.getLsbD i <;> rfl
theorem not_toNat (x : UInt32) : (~~~x).toNat = 4294967295 - x.toNat := by
  have h := x.toNat_lt
  have : (~~~x).toNat = 2 ^ 32 - 1 - x.toNat := by
    rw [← UInt32.toNat_toBitVec, UInt32.toBitVec_not, BitVec.toNat_not]; rfl
  rw [this]
theorem sub_w32 (x : UInt32) : Op.intArith .sub .u32 4294967295 (w32 x) = pure (.int .u32 (w32 (~~~x))) := by
  have h := x.toNat_lt
  have e : IntKind.u32.wrap (4294967295 - (x.toNat : Int)) = ((4294967295 - x.toNat : Nat) : Int) := by
    simp [IntKind.wrap, IntKind.signed, IntKind.bits]; omega
  simp only [w32, not_toNat]
  simp [Op.intArith, e]
theorem sub_max_w32 (x : UInt32) : Op.intArith .sub .u32 IntKind.u32.max (w32 x) = pure (.int .u32 (w32 (~~~x))) := sub_w32 x
theorem refExt_eq (ws : List UInt32) (i : Nat) : ws.getD (i - 16) 0 + (rotr (ws.getD (i - 15) 0) 7 ^^^ rotr (ws.getD (i - 15) 0) 18 ^^^ ws.getD (i - 15) 0 >>> 3) + ws.getD (i - 7) 0 +
    (rotr (ws.getD (i - 2) 0) 17 ^^^ rotr (ws.getD (i - 2) 0) 19 ^^^ ws.getD (i - 2) 0 >>> 10) = ext ws i := rfl
theorem refRnd_eq (v : List UInt32) (k w : UInt32) : rnd v k w =
  [v.getD 7 0 + (rotr (v.getD 4 0) 6 ^^^ rotr (v.getD 4 0) 11 ^^^ rotr (v.getD 4 0) 25) + ((v.getD 4 0 &&& v.getD 5 0) ||| (~~~v.getD 4 0 &&& v.getD 6 0)) + k + w +
    ((rotr (v.getD 0 0) 2 ^^^ rotr (v.getD 0 0) 13 ^^^ rotr (v.getD 0 0) 22) + ((v.getD 0 0 &&& v.getD 1 0) ||| (v.getD 0 0 &&& v.getD 2 0) ||| (v.getD 1 0 &&& v.getD 2 0))),
   v.getD 0 0, v.getD 1 0, v.getD 2 0,
   v.getD 3 0 + (v.getD 7 0 + (rotr (v.getD 4 0) 6 ^^^ rotr (v.getD 4 0) 11 ^^^ rotr (v.getD 4 0) 25) + ((v.getD 4 0 &&& v.getD 5 0) ||| (~~~v.getD 4 0 &&& v.getD 6 0)) + k + w),
   v.getD 4 0, v.getD 5 0, v.getD 6 0] := by
  rw [ch_or, maj_or]
  rfl
/-- The first so many words of a sum. -/
def addTo (h v : List UInt32) (i : Nat) : List UInt32 := (List.range i).map fun j => h.getD j 0 + v.getD j 0
theorem addTo_succ (h v : List UInt32) (i : Nat) : addTo h v (i + 1) = addTo h v i ++ [h.getD i 0 + v.getD i 0] := by simp [addTo, List.range_succ]
end Go.Proofs.Ytkibibgbmkejjaa
