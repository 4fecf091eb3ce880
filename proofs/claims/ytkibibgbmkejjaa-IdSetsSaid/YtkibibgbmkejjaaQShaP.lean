/- The sum of 32 bytes: plain functions on lists of words. -/
import Derived.Test.YtkibibgbmkejjaaQShaC
set_option linter.unusedSimpArgs false
set_option linter.unusedVariables false
namespace Go.Qk
open Go.RowKit
abbrev rotr := @Go.Proofs.Ytkibibgbmkejjaa.rotr
abbrev b4 := @Go.Proofs.Ytkibibgbmkejjaa.b4

def ext (ws : List UInt32) (i : Nat) : UInt32 :=
  ws.getD (i - 16) 0 + (rotr (ws.getD (i - 15) 0) 7 ^^^ rotr (ws.getD (i - 15) 0) 18 ^^^ ws.getD (i - 15) 0 >>> 3) + ws.getD (i - 7) 0 +
    (rotr (ws.getD (i - 2) 0) 17 ^^^ rotr (ws.getD (i - 2) 0) 19 ^^^ ws.getD (i - 2) 0 >>> 10)
theorem ext_eq (ws : List UInt32) (i : Nat) : ws.getD (i - 16) 0 + (rotr (ws.getD (i - 15) 0) 7 ^^^ rotr (ws.getD (i - 15) 0) 18 ^^^ ws.getD (i - 15) 0 >>> 3) + ws.getD (i - 7) 0 +
    (rotr (ws.getD (i - 2) 0) 17 ^^^ rotr (ws.getD (i - 2) 0) 19 ^^^ ws.getD (i - 2) 0 >>> 10) = ext ws i := rfl
def sched (b : List UInt8) : Nat → List UInt32
  | 0 => wordsOf b 16
  | n + 1 => sched b n ++ [ext (sched b n) (16 + n)]
theorem sched_length (b : List UInt8) : ∀ n, (sched b n).length = 16 + n
  | 0 => wordsOf_length b 16
  | n + 1 => by simp [sched, sched_length b n]; omega
def rnd (v : List UInt32) (k w : UInt32) : List UInt32 :=
  let e := v.getD 4 0
  let a := v.getD 0 0
  let x := v.getD 7 0 + (rotr e 6 ^^^ rotr e 11 ^^^ rotr e 25) + ((e &&& v.getD 5 0) ^^^ (~~~e &&& v.getD 6 0)) + k + w
  let y := (rotr a 2 ^^^ rotr a 13 ^^^ rotr a 22) + ((a &&& v.getD 1 0) ^^^ (a &&& v.getD 2 0) ^^^ (v.getD 1 0 &&& v.getD 2 0))
  [x + y, v.getD 0 0, v.getD 1 0, v.getD 2 0, v.getD 3 0 + x, v.getD 4 0, v.getD 5 0, v.getD 6 0]
theorem rnd_eq (v : List UInt32) (k w : UInt32) : rnd v k w =
  [v.getD 7 0 + (rotr (v.getD 4 0) 6 ^^^ rotr (v.getD 4 0) 11 ^^^ rotr (v.getD 4 0) 25) + (v.getD 4 0 &&& v.getD 5 0 ^^^ ~~~v.getD 4 0 &&& v.getD 6 0) + k + w +
    ((rotr (v.getD 0 0) 2 ^^^ rotr (v.getD 0 0) 13 ^^^ rotr (v.getD 0 0) 22) + (v.getD 0 0 &&& v.getD 1 0 ^^^ v.getD 0 0 &&& v.getD 2 0 ^^^ v.getD 1 0 &&& v.getD 2 0)),
   v.getD 0 0, v.getD 1 0, v.getD 2 0,
   v.getD 3 0 + (v.getD 7 0 + (rotr (v.getD 4 0) 6 ^^^ rotr (v.getD 4 0) 11 ^^^ rotr (v.getD 4 0) 25) + (v.getD 4 0 &&& v.getD 5 0 ^^^ ~~~v.getD 4 0 &&& v.getD 6 0) + k + w),
   v.getD 4 0, v.getD 5 0, v.getD 6 0] := rfl
theorem rnd_length (v : List UInt32) (k w : UInt32) : (rnd v k w).length = 8 := rfl
def shaK : List UInt32 := [0x428a2f98, 0x71374491, 0xb5c0fbcf, 0xe9b5dba5, 0x3956c25b, 0x59f111f1, 0x923f82a4, 0xab1c5ed5,
  0xd807aa98, 0x12835b01, 0x243185be, 0x550c7dc3, 0x72be5d74, 0x80deb1fe, 0x9bdc06a7, 0xc19bf174,
  0xe49b69c1, 0xefbe4786, 0x0fc19dc6, 0x240ca1cc, 0x2de92c6f, 0x4a7484aa, 0x5cb0a9dc, 0x76f988da,
  0x983e5152, 0xa831c66d, 0xb00327c8, 0xbf597fc7, 0xc6e00bf3, 0xd5a79147, 0x06ca6351, 0x14292967,
  0x27b70a85, 0x2e1b2138, 0x4d2c6dfc, 0x53380d13, 0x650a7354, 0x766a0abb, 0x81c2c92e, 0x92722c85,
  0xa2bfe8a1, 0xa81a664b, 0xc24b8b70, 0xc76c51a3, 0xd192e819, 0xd6990624, 0xf40e3585, 0x106aa070,
  0x19a4c116, 0x1e376c08, 0x2748774c, 0x34b0bcb5, 0x391c0cb3, 0x4ed8aa4a, 0x5b9cca4f, 0x682e6ff3,
  0x748f82ee, 0x78a5636f, 0x84c87814, 0x8cc70208, 0x90befffa, 0xa4506ceb, 0xbef9a3f7, 0xc67178f2]
def shaH : List UInt32 := [0x6a09e667, 0xbb67ae85, 0x3c6ef372, 0xa54ff53a, 0x510e527f, 0x9b05688c, 0x1f83d9ab, 0x5be0cd19]
def rnds (v ws : List UInt32) : Nat → List UInt32
  | 0 => v
  | n + 1 => rnd (rnds v ws n) (shaK.getD n 0) (ws.getD n 0)
theorem rnds_succ (v ws : List UInt32) (n : Nat) : rnds v ws (n + 1) = rnd (rnds v ws n) (shaK.getD n 0) (ws.getD n 0) := rfl
theorem rnds_length (v ws : List UInt32) (h : v.length = 8) : ∀ n, (rnds v ws n).length = 8
  | 0 => h
  | n + 1 => rnd_length _ _ _
/-- A block, taken in. -/
def shaAdd (h : List UInt32) (b : List UInt8) : List UInt32 := (List.range 8).map fun i => h.getD i 0 + (rnds h (sched b 48) 64).getD i 0
theorem shaAdd_length (h : List UInt32) (b : List UInt8) : (shaAdd h b).length = 8 := by simp [shaAdd]

/-- The state when so many words are added. -/
def accTo (h v : List UInt32) (i : Nat) : List UInt32 := (List.range 8).map fun j => if j < i then h.getD j 0 + v.getD j 0 else h.getD j 0
theorem accTo_length (h v : List UInt32) (i : Nat) : (accTo h v i).length = 8 := by simp [accTo]
theorem accTo_zero (h v : List UInt32) (hh : h.length = 8) : accTo h v 0 = h := by
  apply List.ext_getElem
  · simp [accTo, hh]
  · intro i h1 h2
    simp [accTo, h2]
theorem accTo_full (h v : List UInt32) : accTo h v 8 = (List.range 8).map fun i => h.getD i 0 + v.getD i 0 := by
  unfold accTo
  apply List.map_congr_left
  intro i hi
  rw [if_pos (List.mem_range.1 hi)]
theorem accTo_at (h v : List UInt32) (i : Nat) (hi : i < 8) : (accTo h v i).getD i 0 = h.getD i 0 := by
  simp [accTo, hi]
theorem accTo_set (h v : List UInt32) (i : Nat) (hi : i < 8) (tl : List Value) :
    (u32s (accTo h v i) ++ tl).toArray.setIfInBounds i (.int .u32 (w32 (h.getD i 0 + v.getD i 0))) = (u32s (accTo h v (i + 1)) ++ tl).toArray := by
  have e : u32s (accTo h v (i + 1)) = (u32s (accTo h v i)).set i (.int .u32 (w32 (h.getD i 0 + v.getD i 0))) := by
    apply List.ext_getElem
    · simp [u32s_length, accTo_length]
    · intro j h1 h2
      rw [u32s_length, accTo_length] at h1
      rw [List.getElem_set]
      by_cases hij : i = j
      · subst hij
        simp [u32s, accTo]
      · rw [if_neg hij]
        simp only [u32s, accTo, List.getElem_map, List.getElem_range]
        have : (j < i + 1) ↔ j < i := by omega
        simp only [this]
  rw [e, List.setIfInBounds_toArray, List.set_append_left _ _ (by rw [u32s_length, accTo_length]; exact hi)]
end Go.Qk
