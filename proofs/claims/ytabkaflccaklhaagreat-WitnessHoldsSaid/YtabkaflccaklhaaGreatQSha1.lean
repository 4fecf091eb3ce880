/- Joined: QShaW QShaA QShaB QShaC QShaP QShaD. -/
import Derived.Test.YtabkaflccaklhaaGreatQBase1
import Derived.Test.YtabkaflccaklhaaGreatProg
set_option linter.unusedSimpArgs false
set_option linter.unusedVariables false
section
/- Words of 32 bits, as the walk has them. -/
set_option linter.unusedSimpArgs false
set_option linter.unusedVariables false
namespace Go.Qk
open Go.RowKit

def w32 (x : UInt32) : Int := (x.toNat : Int)
theorem w32_lo (x : UInt32) : 0 ≤ w32 x := by unfold w32; omega
theorem w32_hi (x : UInt32) : w32 x < 4294967296 := by unfold w32; have := x.toNat_lt; omega
theorem w32_nat (x : UInt32) : ((w32 x).toNat : Nat) = x.toNat := by unfold w32; simp
theorem w32_inj {x y : UInt32} (h : w32 x = w32 y) : x = y := by unfold w32 at h; exact UInt32.toNat_inj.1 (by omega)
theorem w32_ofInt (x : UInt32) : BitVec.ofInt 32 (w32 x) = x.toBitVec := by
  apply BitVec.eq_of_toNat_eq
  simp [w32, BitVec.toNat_ofInt]
theorem wrap_u32 (n : Nat) (h : n < 4294967296) : IntKind.u32.wrap (n : Int) = n := by
  simp [IntKind.wrap, IntKind.signed, IntKind.bits]
  omega
theorem add_w32 (x y : UInt32) : Op.intArith .add .u32 (w32 x) (w32 y) = pure (.int .u32 (w32 (x + y))) := by
  simp [Op.intArith, IntKind.wrap, IntKind.signed, IntKind.bits, w32, UInt32.toNat_add]
theorem and_w32 (x y : UInt32) : Op.intBits .and .u32 (w32 x) (w32 y) = pure (.int .u32 (w32 (x &&& y))) := by
  have e : Op.intBits .and .u32 (w32 x) (w32 y) = pure (.int .u32 (IntKind.u32.wrap (((x.toBitVec &&& y.toBitVec).toNat : Nat) : Int))) := by
    simp only [Op.intBits, IntKind.bits, w32_ofInt]
    rfl
  rw [e]
  show pure (Value.int .u32 (IntKind.u32.wrap (((x &&& y).toNat : Nat) : Int))) = _
  rw [wrap_u32 _ (x &&& y).toNat_lt]
  rfl
theorem or_w32 (x y : UInt32) : Op.intBits .or .u32 (w32 x) (w32 y) = pure (.int .u32 (w32 (x ||| y))) := by
  have e : Op.intBits .or .u32 (w32 x) (w32 y) = pure (.int .u32 (IntKind.u32.wrap (((x.toBitVec ||| y.toBitVec).toNat : Nat) : Int))) := by
    simp only [Op.intBits, IntKind.bits, w32_ofInt]
    rfl
  rw [e]
  show pure (Value.int .u32 (IntKind.u32.wrap (((x ||| y).toNat : Nat) : Int))) = _
  rw [wrap_u32 _ (x ||| y).toNat_lt]
  rfl
theorem xor_w32 (x y : UInt32) : Op.intBits .xor .u32 (w32 x) (w32 y) = pure (.int .u32 (w32 (x ^^^ y))) := by
  have e : Op.intBits .xor .u32 (w32 x) (w32 y) = pure (.int .u32 (IntKind.u32.wrap (((x.toBitVec ^^^ y.toBitVec).toNat : Nat) : Int))) := by
    simp only [Op.intBits, IntKind.bits, w32_ofInt]
    rfl
  rw [e]
  show pure (Value.int .u32 (IntKind.u32.wrap (((x ^^^ y).toNat : Nat) : Int))) = _
  rw [wrap_u32 _ (x ^^^ y).toNat_lt]
  rfl
theorem shr_w32 (yk : IntKind) (x : UInt32) (n : Nat) (hn : n < 32) : Op.shift .shr .u32 (w32 x) yk (n : Int) = pure (.int .u32 (w32 (x >>> UInt32.ofNat n))) := by
  have e : min n 32 = n := by omega
  simp [Op.shift, IntKind.bits, e]
  simp [w32, UInt32.toNat_shiftRight, Nat.shiftRight_eq_div_pow, Nat.mod_eq_of_lt (show n < 4294967296 by omega), Nat.mod_eq_of_lt hn]
theorem shl_w32 (yk : IntKind) (x : UInt32) (n : Nat) (hn : n < 32) : Op.shift .shl .u32 (w32 x) yk (n : Int) = pure (.int .u32 (w32 (x <<< UInt32.ofNat n))) := by
  have e : min n 32 = n := by omega
  simp [Op.shift, IntKind.bits, e]
  simp [w32, UInt32.toNat_shiftLeft, Nat.shiftLeft_eq, IntKind.wrap, IntKind.signed, IntKind.bits, Nat.mod_eq_of_lt (show n < 4294967296 by omega), Nat.mod_eq_of_lt hn]
theorem shr3_w32 (yk : IntKind) (x : UInt32) : Op.shift .shr .u32 (w32 x) yk 3 = pure (.int .u32 (w32 (x >>> 3))) := shr_w32 yk x 3 (by omega)
theorem shr10_w32 (yk : IntKind) (x : UInt32) : Op.shift .shr .u32 (w32 x) yk 10 = pure (.int .u32 (w32 (x >>> 10))) := shr_w32 yk x 10 (by omega)
theorem shr8_w32 (yk : IntKind) (x : UInt32) : Op.shift .shr .u32 (w32 x) yk 8 = pure (.int .u32 (w32 (x >>> 8))) := shr_w32 yk x 8 (by omega)
theorem shr16_w32 (yk : IntKind) (x : UInt32) : Op.shift .shr .u32 (w32 x) yk 16 = pure (.int .u32 (w32 (x >>> 16))) := shr_w32 yk x 16 (by omega)
theorem shr24_w32 (yk : IntKind) (x : UInt32) : Op.shift .shr .u32 (w32 x) yk 24 = pure (.int .u32 (w32 (x >>> 24))) := shr_w32 yk x 24 (by omega)
theorem shl8_w32 (yk : IntKind) (x : UInt32) : Op.shift .shl .u32 (w32 x) yk 8 = pure (.int .u32 (w32 (x <<< 8))) := shl_w32 yk x 8 (by omega)
theorem ones_xor (x : UInt32) : (4294967295 : UInt32) ^^^ x = ~~~x := by
  apply UInt32.toBitVec_inj.1
  show (4294967295#32) ^^^ x.toBitVec = ~~~x.toBitVec
  rw [show (4294967295#32) = BitVec.allOnes 32 from by decide, BitVec.allOnes_xor]
theorem not_w32 (x : UInt32) : Op.unary .xor (.int .u32 (w32 x)) = pure (.int .u32 (w32 (~~~x))) := by
  rw [unary_xor, ← ones_xor, ← xor_w32]
  rfl
theorem max_xor_w32 (x : UInt32) : Op.intBits .xor .u32 IntKind.u32.max (w32 x) = pure (.int .u32 (w32 (~~~x))) := by
  rw [← ones_xor, ← xor_w32]
  rfl
def u32s (l : List UInt32) : List Value := l.map fun x => .int .u32 (w32 x)
theorem u32s_length (l : List UInt32) : (u32s l).length = l.length := by simp [u32s]
theorem u32s_get (l : List UInt32) (k : Nat) (h : k < l.length) : (u32s l)[k]? = some (.int .u32 (w32 (l.getD k 0))) := by
  simp [u32s, List.getElem?_eq_getElem h, h]
theorem u32s_append (l m : List UInt32) : u32s (l ++ m) = u32s l ++ u32s m := by simp [u32s]
theorem u32s_one (l : List UInt32) : ∀ u ∈ u32s l, u.oneCell' = true := by
  intro u hu
  obtain ⟨b, _, rfl⟩ := List.mem_map.1 hu
  rfl
/-- A word out of bytes, the highest first: j of four are in. -/
def wAt (l : List UInt8) (i : Nat) : Nat → UInt32
  | 0 => 0
  | j + 1 => (wAt l i j <<< 8) ||| UInt32.ofNat (l.getD (4 * i + j) 0).toNat
def wordsOf (l : List UInt8) (n : Nat) : List UInt32 := (List.range n).map fun i => wAt l i 4
theorem wordsOf_length (l : List UInt8) (n : Nat) : (wordsOf l n).length = n := by simp [wordsOf]
theorem wordsOf_succ (l : List UInt8) (n : Nat) : wordsOf l (n + 1) = wordsOf l n ++ [wAt l n 4] := by simp [wordsOf, List.range_succ]
theorem byte_w32 (b : UInt8) : w32 (UInt32.ofNat b.toNat) = (b.toNat : Int) := by
  have := b.toNat_lt
  simp [w32, UInt32.toNat_ofNat]
theorem cell_u32 {w w' : World} {g : Nat} {l : List UInt32} {t : TypeId} (h : w.heap[g]? = some (.cells (u32s l).toArray t (0, 0))) (hg : Grow w w') (k : Nat) (hk : k < l.length) :
    w'.cell? ⟨g, k, none⟩ = some (.int .u32 (w32 (l.getD k 0))) := by
  rw [cell_of_row w' g k _ t (0, 0) (grow_block h hg)]
  simpa using u32s_get l k hk
end Go.Qk
end
section
namespace Go.Proofs.YtabkaflccaklhaaGreat
open Go.RowKit Go.Qk
attribute [local go_sem ↓ high] add_w32 and_w32 or_w32 xor_w32 shr_w32 shl_w32 shr3_w32 shr10_w32 shr8_w32 shr16_w32 shr24_w32 shl8_w32
attribute [local go_sem high] not_w32 max_xor_w32

set_option maxHeartbeats 400000
set_option maxRecDepth 100000
def rotl (x : UInt32) (m : Nat) : UInt32 := (x <<< UInt32.ofNat m) ||| (x >>> UInt32.ofNat (32 - m))
def rotr (x : UInt32) (n : Nat) : UInt32 := rotl x (32 - n)

theorem wordLeft (x : UInt32) (m : Nat) (h0 : 0 < m) (hm : m < 32) (hb : bits .and .i64 (m : Int) 31 = m) (w : World) :
    Calls Tryz.prog 166 #[.int .u32 (w32 x), .int .i64 m] w fun e w' => e = .returned (.int .u32 (w32 (rotl x m))) ∧ Below w.heap.size w w' := by
  go_enter Tryz.func166, Tryz.ntmps166
  go_wp2
  have e1 : (32 : Int) - m = ((32 - m : Nat) : Int) := by omega
  have hm2 : 32 - m < 32 := by omega
  have e2 : IntKind.i64.wrap ((32 - m : Nat) : Int) = ((32 - m : Nat) : Int) := by simp [IntKind.wrap, IntKind.signed, IntKind.bits]; omega
  (refine' wp_region_head 9 0 [_, _, _, _, _, _, _, _, _] rfl (by kernel_rfl) (by kernel_rfl) ?hreg1; case' hreg1 => simp only [List.take_succ_cons, List.take_zero, List.zip_cons_cons, List.zip_nil_right, List.drop_succ_cons, List.drop_zero, List.drop_nil])
  (iterate 9 (refine' head_val ?_ ?_ ?_ ?_; rotate_left; (· rfl); (· first | exact fun _ _ _ => trivial | (intro t ht w; cases ht; simp [upE])); (· intro w' hw' _; go_simp; with_reducible rfl); simp only [Act.put, List.setIfInBounds_toArray, List.set_cons_zero, List.set_cons_succ]))
  refine head_nil ?_
  intro w1 hw1 _
  refine wpList_nil ?_
  go_wp2
  go_ret
  exact ⟨rfl, hw1⟩

theorem wordRight (x : UInt32) (n : Nat) (h0 : 0 < n) (hn : n < 32) (ha : bits .and .i64 (n : Int) 31 = n) (hb : bits .and .i64 ((32 - n : Nat) : Int) 31 = ((32 - n : Nat) : Int)) (w : World) :
    Calls Tryz.prog 163 #[.int .u32 (w32 x), .int .i64 n] w fun e w' => e = .returned (.int .u32 (w32 (rotr x n))) ∧ Below w.heap.size w w' := by
  have e1 : (32 : Int) - n = ((32 - n : Nat) : Int) := by omega
  have e2 : IntKind.i64.wrap ((32 - n : Nat) : Int) = ((32 - n : Nat) : Int) := by simp [IntKind.wrap, IntKind.signed, IntKind.bits]; omega
  have HB := hid hb
  clear hb
  go_enter Tryz.func163, Tryz.ntmps163
  go_wp2_with fail
  refine (wordLeft x (32 - n) (by omega) (by omega) HB.out _).mono ?_
  rintro e w1 ⟨rfl, hb⟩
  go_wp2
  go_ret
  exact ⟨rfl, hb⟩

theorem shaThree (x y : UInt32) (m n : Nat) (h0 : 0 < m) (hm : m < 32) (h1 : 0 < n) (hn : n < 32) (ha : bits .and .i64 (m : Int) 31 = m) (hb : bits .and .i64 ((32 - m : Nat) : Int) 31 = ((32 - m : Nat) : Int))
    (hc : bits .and .i64 (n : Int) 31 = n) (hd : bits .and .i64 ((32 - n : Nat) : Int) 31 = ((32 - n : Nat) : Int)) (w : World) :
    Calls Tryz.prog 161 #[.int .u32 (w32 x), .int .i64 m, .int .i64 n, .int .u32 (w32 y)] w fun e w' => e = .returned (.int .u32 (w32 (rotr x m ^^^ rotr x n ^^^ y))) ∧ Below w.heap.size w w' := by
  have HA := hid ha
  have HB := hid hb
  have HC := hid hc
  have HD := hid hd
  clear ha hb hc hd
  go_enter Tryz.func161, Tryz.ntmps161
  go_wp2_with fail
  refine (wordRight x m h0 hm HA.out HB.out _).mono ?_
  rintro e w1 ⟨rfl, hb1⟩
  have HB1 := hid hb1
  clear hb1
  go_wp2_with fail
  refine (wordRight x n h1 hn HC.out HD.out _).mono ?_
  rintro e w2 ⟨rfl, hb2⟩
  have HB2 := hid (Grow.trans HB1.out hb2)
  clear hb2
  go_wp2
  go_ret
  exact ⟨rfl, HB2.out⟩
end Go.Proofs.YtabkaflccaklhaaGreat
end
section
namespace Go.Proofs.YtabkaflccaklhaaGreat
open Go.RowKit Go.Qk
attribute [local go_sem ↓ high] add_w32 and_w32 or_w32 xor_w32 shr_w32 shl_w32 shr3_w32 shr10_w32 shr8_w32 shr16_w32 shr24_w32 shl8_w32
attribute [local go_sem high] not_w32 max_xor_w32

set_option maxHeartbeats 400000
set_option maxRecDepth 100000
theorem infoU32 : (Tryz.prog.info? 199).map (fun i => (i.zero, i.size, i.bytes)) = some (some (.int .u32 0), 1, 4) := by kernel_rfl
theorem wordWords (s : ByteArray) (n : Nat) (hs : s.size = 4 * n) (hn : n ≤ 1000000) (w : World) :
    Calls Tryz.prog 160 #[.string s] w fun e w' => ∃ v, e = .returned (.tuple #[v, .int .i64 0]) ∧ w'.ownsRow w.heap.size 199 1 v n (u32s (wordsOf (bl s) n)) ∧ Below w.heap.size w w' := by
  have HS := hid hs
  have h1 : ((s.size : Int)) = 4 * (n : Int) := by omega
  have t1 : ((s.size : Int) % 4 != 0) = false := by simp; omega
  have t2 : (s.size : Int) / 4 = n := by omega
  have H1 := hid h1
  clear hs h1
  obtain ⟨i0, hi, hz0, hz1, hz2⟩ := info_parts infoU32
  have HI := hid hi
  have HZ0 := hid hz0
  have HZ1 := hid hz1
  have HZ2 := hid hz2
  clear hi hz0 hz1 hz2
  go_enter Tryz.func160, Tryz.ntmps160
  go_wp2
  go_loopg [4, 15] (n + 1) (fun g v i wr => ∃ k : Nat, k ≤ n ∧ g = n - k + 1 ∧ i = .int .i64 k ∧ Hid (wr.ownsRow w.heap.size 199 1 v k (u32s (wordsOf (bl s) k))) ∧ Hid (Below w.heap.size w wr) ∧ Hid (w.heap.size ≤ wr.heap.size))
  case atStart => exact ⟨0, by omega, by omega, rfl, World.ownsRow_nil _ _ _ _, Below.refl _ _, Nat.le_refl _⟩
  case round =>
    obtain ⟨k, hk, hg, rfl, hO, hB, hL⟩ := hrel
    by_cases hlt : k < n
    · obtain ⟨wo, rfl⟩ : ∃ wo : World, wo = wr := ⟨_, rfl⟩
      go_wp2
      go_loopg [6, 18] 5 (fun g x i w1 => ∃ j : Nat, j ≤ 4 ∧ g = 4 - j + 1 ∧ i = .int .i64 j ∧ x = .int .u32 (w32 (wAt (bl s) k j)) ∧ Hid (Grow wo w1))
      case atStart => exact ⟨0, by omega, by omega, rfl, rfl, Below.refl _ _⟩
      case round =>
        obtain ⟨j, hj, hg, rfl, rfl, hG⟩ := hrel
        by_cases hjt : j < 4
        · have hlt2 : 4 * k + j < s.size := by have := HS.out; omega
          have hix : ∀ w, (Instr.index 9 (.string s) (.int .i64 (4 * (k : Int) + (j : Int)))).run Tryz.prog w = .ok (.int .u8 (w32 (UInt32.ofNat ((bl s).getD (4 * k + j) 0).toNat))) w := fun w => by
            rw [run_index_str 9 s (4 * k + j) hlt2 _ (by omega) w Tryz.underlying9, b8, ← byte_w32]
          have hb0 := w32_lo (UInt32.ofNat ((bl s).getD (4 * k + j) 0).toNat)
          have hb1 : w32 (UInt32.ofNat ((bl s).getD (4 * k + j) 0).toNat) < 256 := by rw [byte_w32]; have := ((bl s).getD (4 * k + j) 0).toNat_lt; omega
          have hst : (wAt (bl s) k j <<< 8) ||| UInt32.ofNat ((bl s).getD (4 * k + j) 0).toNat = wAt (bl s) k (j + 1) := rfl
          have HST := hid hst
          clear hst
          generalize UInt32.ofNat ((bl s).getD (4 * k + j) 0).toNat = cb at *
          go_wp2
          go_roundg (4 - (j + 1) + 1)
          case rel => exact ⟨j + 1, by omega, rfl, by go_num, by rw [← HST.out], hG⟩
          case measure => omega
        · obtain rfl : j = 4 := by omega
          have HO1 := hid (own_grow hO.out hG.out)
          have HB1 := hid (below_grow hB.out hL.out hG.out)
          have HL1 := hid (Nat.le_trans hL.out hG.out.size)
          go_wp2_with (at_builtin; refine app_cells (w0 := w) (B := w.heap.size) (.tmp 32) (.tmp 34) 172 199 (.int .u32 0) 1 4 _ k (u32s (wordsOf (bl s) k)) [.int .u32 (w32 (wAt (bl s) k 4))] ⟨wr.heap.size, 0, none⟩ 1 1 rfl rfl Tryz.underlying172 infoU32 rfl (by decide) rfl rfl rfl ?h2 ?h3 ?h1 ?h4 ?h6 ?h5 ?h7 ?_)
          case h1 => exact HO1.out.alloc _
          case h2 => exact cell_one_new _ _ _
          case h3 => simp [Value.oneCell']
          case h4 => exact HB1.out.alloc HL1.out _
          case h5 => omega
          case h7 => omega
          case h6 => simp; exact Nat.le_succ_of_le HL1.out
          intro v' w3 hown' hb3 hs3
          have e3 : u32s (wordsOf (bl s) k) ++ [.int .u32 (w32 (wAt (bl s) k 4))] = u32s (wordsOf (bl s) (k + 1)) := by rw [wordsOf_succ, u32s_append]; rfl
          rw [e3] at hown'
          have HO3 := hid hown'
          have HB3 := hid hb3
          have HS3 := hid hs3
          clear e3 hown' hb3 hs3
          go_wp2
          go_roundg (n - (k + 1) + 1)
          case rel => exact ⟨k + 1, by omega, rfl, by go_num, HO3, HB3, HS3⟩
          case measure => omega
    · obtain rfl : k = n := by omega
      go_wp2
      refine bodyPost_ret (results_tmp2 rfl _ _ _) rfl ?_
      exact ⟨_, rfl, hO.out, hB.out⟩
end Go.Proofs.YtabkaflccaklhaaGreat
end
section
namespace Go.Proofs.YtabkaflccaklhaaGreat
open Go.RowKit Go.Qk
attribute [local go_sem ↓ high] add_w32 and_w32 or_w32 xor_w32 shr_w32 shl_w32 shr3_w32 shr10_w32 shr8_w32 shr16_w32 shr24_w32 shl8_w32
attribute [local go_sem high] not_w32 max_xor_w32

set_option maxHeartbeats 400000
set_option maxRecDepth 100000
def b4 (x : UInt32) : List UInt8 := [UInt8.ofNat (x >>> 24).toNat, UInt8.ofNat (x >>> 16).toNat, UInt8.ofNat (x >>> 8).toNat, UInt8.ofNat x.toNat]
theorem w32_mod (x : UInt32) : w32 x % 256 = ((UInt8.ofNat x.toNat).toNat : Int) := by
  simp [w32, UInt8.toNat_ofNat]
theorem b4_cells (x : UInt32) : [Value.int .u8 (w32 (x >>> 24) % 256), .int .u8 (w32 (x >>> 16) % 256), .int .u8 (w32 (x >>> 8) % 256), .int .u8 (w32 x % 256)] = u8s (b4 x) := by
  simp [w32_mod, u8s, b4]
theorem b4_length (x : UInt32) : (b4 x).length = 4 := rfl

def outB (l : List UInt32) (k : Nat) : List UInt8 := (l.take k).flatMap b4
theorem wordBytes8 (l : List UInt32) (hl : l.length = 8) (ad : Addr) (c : Nat) (w : World) (hc : ∀ i, i < 8 → w.cell? (ad.add i) = some (.int .u32 (w32 (l.getD i 0)))) :
    Calls Tryz.prog 152 #[.slice (some ad) 8 c] w fun e w' => e = .returned (.string (bs (l.flatMap b4))) ∧ Below w.heap.size w w' := by
  have hmk : ∀ w, (Instr.makeSlice 85 (.int .i64 0) (.int .i64 32)).run Tryz.prog w = .ok (.slice (some ⟨w.heap.size, 0, none⟩) 0 32) (w.alloc (.cells (Array.replicate 32 (.int .u8 0)) 5)) := fun _ => by kernel_rfl
  have HC := hid hc
  clear hc
  go_enter Tryz.func152, Tryz.ntmps152
  generalize hz : Array.replicate 32 (Value.int .u8 0) = Z at *
  have HZ := hid hz
  clear hz
  go_wp2
  go_loopg [3, 12] 9 (fun g v i wr => ∃ k : Nat, k ≤ 8 ∧ g = 8 - k + 1 ∧ i = .int .i64 k ∧ Hid (Buf 5 w.heap.size wr v (outB l k)) ∧ Hid (Below w.heap.size w wr) ∧ Hid (w.heap.size ≤ wr.heap.size))
  case atStart =>
    refine ⟨0, by omega, by omega, rfl, ?_, (Below.refl _ _).alloc (Nat.le_refl _) _, hid (by simp)⟩
    exact World.ownsRow_made _ Z 32 (Nat.le_refl _) (by decide) (by rw [← HZ.out]; simp)
  case round =>
    obtain ⟨k, hk, hg, rfl, hO, hB, hL⟩ := hrel
    clear hmk
    by_cases hlt : k < 8
    · have k0 : (0 : Int) ≤ (k : Int) := by omega
      have hc' : wr.cell? (ad.add k) = some (.int .u32 (w32 (l.getD k 0))) := (hB.out.cell (block_lt_of_cell (HC.out k hlt))).trans (HC.out k hlt)
      have ht : outB l (k + 1) = outB l k ++ b4 (l.getD k 0) := by
        unfold outB
        rw [List.take_succ_eq_append_getElem (by omega), List.flatMap_append]
        simp [show k < l.length by omega]
      have hlen : (outB l k).length ≤ 32 := by
        have : ∀ m : List UInt32, (m.flatMap b4).length = 4 * m.length := by
          intro m
          induction m with
          | nil => rfl
          | cons a m ih => rw [List.flatMap_cons, List.length_append, ih, b4_length, List.length_cons]; omega
        unfold outB
        rw [this, List.length_take]
        omega
      have HT := hid ht
      have HLN := hid hlen
      clear ht hlen
      generalize l.getD k 0 = x at *
      have w0 := w32_lo x
      have w1 := w32_lo (x >>> 24)
      have w2 := w32_lo (x >>> 16)
      have w3 := w32_lo (x >>> 8)
      go_wp2_with (at_builtin; refine app_cells (w0 := w) (B := w.heap.size) (.tmp 16) (.tmp 28) 85 5 (.int .u8 0) 1 1 _ (outB l k).length (u8s (outB l k)) [.int .u8 (w32 (x >>> 24) % 256), .int .u8 (w32 (x >>> 16) % 256), .int .u8 (w32 (x >>> 8) % 256), .int .u8 (w32 x % 256)] ⟨wr.heap.size, 0, none⟩ 4 4 rfl rfl Tryz.underlying85 infoU8 rfl (by decide) rfl rfl rfl ?h2 ?h3 ?h1 ?h4 ?h6 ?h5 ?h7 ?_)
      case h2 => exact fun j u h => cells_new wr _ _ j u h
      case h3 => intro u hu; rw [b4_cells] at hu; exact u8s_one _ u hu
      case h1 => exact World.ownsRow.alloc hO.out _
      case h4 => exact hB.out.alloc hL.out _
      case h6 => simp; exact Nat.le_succ_of_le hL.out
      case h5 => have := HLN.out; omega
      case h7 => have := HLN.out; omega
      intro v' w5 hown hb5 hs5
      rw [b4_cells, ← u8s_append, ← HT.out] at hown
      have hown' : Buf 5 w.heap.size w5 v' (outB l (k + 1)) := by
        unfold Buf
        have e : (outB l (k + 1)).length = (outB l k).length + 4 := by rw [HT.out, List.length_append, b4_length]
        rw [e]
        exact hown
      have HO5 := hid hown'
      have HB5 := hid hb5
      have HS5 := hid hs5
      clear hown hown' hb5 hs5
      go_wp2
      go_roundg (8 - (k + 1) + 1)
      case rel => exact ⟨k + 1, by omega, rfl, by go_num, HO5, HB5, HS5⟩
      case measure => omega
    · obtain rfl : k = 8 := by omega
      have hcv := buf_str (P := Tryz.prog) 85 5 9 Tryz.underlying85 Tryz.underlying5 Tryz.underlying9 _ _ hO.out
      unfold outB at hcv
      rw [List.take_of_length_le (by omega)] at hcv
      go_wp2
      go_ret
      exact ⟨rfl, hB.out⟩
end Go.Proofs.YtabkaflccaklhaaGreat
end
section
/- The sum of 32 bytes: plain functions on lists of words. -/
namespace Go.Qk
open Go.RowKit
abbrev rotr := @Go.Proofs.YtabkaflccaklhaaGreat.rotr
abbrev b4 := @Go.Proofs.YtabkaflccaklhaaGreat.b4

def ext (ws : List UInt32) (i : Nat) : UInt32 :=
  ws.getD (i - 16) 0 + (rotr (ws.getD (i - 15) 0) 7 ^^^ rotr (ws.getD (i - 15) 0) 18 ^^^ ws.getD (i - 15) 0 >>> 3) + ws.getD (i - 7) 0 +
    (rotr (ws.getD (i - 2) 0) 17 ^^^ rotr (ws.getD (i - 2) 0) 19 ^^^ ws.getD (i - 2) 0 >>> 10)
theorem ext_eq (ws : List UInt32) (i : Nat) : ws.getD (i - 16) 0 + (rotr (ws.getD (i - 15) 0) 7 ^^^ rotr (ws.getD (i - 15) 0) 18 ^^^ ws.getD (i - 15) 0 >>> 3) + ws.getD (i - 7) 0 +
    (rotr (ws.getD (i - 2) 0) 17 ^^^ rotr (ws.getD (i - 2) 0) 19 ^^^ ws.getD (i - 2) 0 >>> 10) = ext ws i := rfl
def sched (b : List UInt8) : Nat → List UInt32
  | 0 => wordsOf b 16
  | n + 1 => sched b n ++ [ext (sched b n) (16 + n)]
theorem sched_length (b : List UInt8) : ∀ n, (sched b n).length = 16 + n
  | 0 => wordsOf_length b 16
  | n + 1 => by simp [sched, sched_length b n]; omega
def rnd (v : List UInt32) (k w : UInt32) : List UInt32 :=
  let e := v.getD 4 0
  let a := v.getD 0 0
  let x := v.getD 7 0 + (rotr e 6 ^^^ rotr e 11 ^^^ rotr e 25) + ((e &&& v.getD 5 0) ^^^ (~~~e &&& v.getD 6 0)) + k + w
  let y := (rotr a 2 ^^^ rotr a 13 ^^^ rotr a 22) + ((a &&& v.getD 1 0) ^^^ (a &&& v.getD 2 0) ^^^ (v.getD 1 0 &&& v.getD 2 0))
  [x + y, v.getD 0 0, v.getD 1 0, v.getD 2 0, v.getD 3 0 + x, v.getD 4 0, v.getD 5 0, v.getD 6 0]
theorem rnd_eq (v : List UInt32) (k w : UInt32) : rnd v k w =
  [v.getD 7 0 + (rotr (v.getD 4 0) 6 ^^^ rotr (v.getD 4 0) 11 ^^^ rotr (v.getD 4 0) 25) + (v.getD 4 0 &&& v.getD 5 0 ^^^ ~~~v.getD 4 0 &&& v.getD 6 0) + k + w +
    ((rotr (v.getD 0 0) 2 ^^^ rotr (v.getD 0 0) 13 ^^^ rotr (v.getD 0 0) 22) + (v.getD 0 0 &&& v.getD 1 0 ^^^ v.getD 0 0 &&& v.getD 2 0 ^^^ v.getD 1 0 &&& v.getD 2 0)),
   v.getD 0 0, v.getD 1 0, v.getD 2 0,
   v.getD 3 0 + (v.getD 7 0 + (rotr (v.getD 4 0) 6 ^^^ rotr (v.getD 4 0) 11 ^^^ rotr (v.getD 4 0) 25) + (v.getD 4 0 &&& v.getD 5 0 ^^^ ~~~v.getD 4 0 &&& v.getD 6 0) + k + w),
   v.getD 4 0, v.getD 5 0, v.getD 6 0] := rfl
theorem rnd_length (v : List UInt32) (k w : UInt32) : (rnd v k w).length = 8 := rfl
def shaK : List UInt32 := [0x428a2f98, 0x71374491, 0xb5c0fbcf, 0xe9b5dba5, 0x3956c25b, 0x59f111f1, 0x923f82a4, 0xab1c5ed5,
  0xd807aa98, 0x12835b01, 0x243185be, 0x550c7dc3, 0x72be5d74, 0x80deb1fe, 0x9bdc06a7, 0xc19bf174,
  0xe49b69c1, 0xefbe4786, 0x0fc19dc6, 0x240ca1cc, 0x2de92c6f, 0x4a7484aa, 0x5cb0a9dc, 0x76f988da,
  0x983e5152, 0xa831c66d, 0xb00327c8, 0xbf597fc7, 0xc6e00bf3, 0xd5a79147, 0x06ca6351, 0x14292967,
  0x27b70a85, 0x2e1b2138, 0x4d2c6dfc, 0x53380d13, 0x650a7354, 0x766a0abb, 0x81c2c92e, 0x92722c85,
  0xa2bfe8a1, 0xa81a664b, 0xc24b8b70, 0xc76c51a3, 0xd192e819, 0xd6990624, 0xf40e3585, 0x106aa070,
  0x19a4c116, 0x1e376c08, 0x2748774c, 0x34b0bcb5, 0x391c0cb3, 0x4ed8aa4a, 0x5b9cca4f, 0x682e6ff3,
  0x748f82ee, 0x78a5636f, 0x84c87814, 0x8cc70208, 0x90befffa, 0xa4506ceb, 0xbef9a3f7, 0xc67178f2]
def shaH : List UInt32 := [0x6a09e667, 0xbb67ae85, 0x3c6ef372, 0xa54ff53a, 0x510e527f, 0x9b05688c, 0x1f83d9ab, 0x5be0cd19]
def rnds (v ws : List UInt32) : Nat → List UInt32
  | 0 => v
  | n + 1 => rnd (rnds v ws n) (shaK.getD n 0) (ws.getD n 0)
theorem rnds_succ (v ws : List UInt32) (n : Nat) : rnds v ws (n + 1) = rnd (rnds v ws n) (shaK.getD n 0) (ws.getD n 0) := rfl
theorem rnds_length (v ws : List UInt32) (h : v.length = 8) : ∀ n, (rnds v ws n).length = 8
  | 0 => h
  | n + 1 => rnd_length _ _ _
/-- A block, taken in. -/
def shaAdd (h : List UInt32) (b : List UInt8) : List UInt32 := (List.range 8).map fun i => h.getD i 0 + (rnds h (sched b 48) 64).getD i 0
theorem shaAdd_length (h : List UInt32) (b : List UInt8) : (shaAdd h b).length = 8 := by simp [shaAdd]

/-- The state when so many words are added. -/
def accTo (h v : List UInt32) (i : Nat) : List UInt32 := (List.range 8).map fun j => if j < i then h.getD j 0 + v.getD j 0 else h.getD j 0
theorem accTo_length (h v : List UInt32) (i : Nat) : (accTo h v i).length = 8 := by simp [accTo]
theorem accTo_zero (h v : List UInt32) (hh : h.length = 8) : accTo h v 0 = h := by
  apply List.ext_getElem
  · simp [accTo, hh]
  · intro i h1 h2
    simp [accTo, h2]
theorem accTo_full (h v : List UInt32) : accTo h v 8 = (List.range 8).map fun i => h.getD i 0 + v.getD i 0 := by
  unfold accTo
  apply List.map_congr_left
  intro i hi
  rw [if_pos (List.mem_range.1 hi)]
theorem accTo_at (h v : List UInt32) (i : Nat) (hi : i < 8) : (accTo h v i).getD i 0 = h.getD i 0 := by
  simp [accTo, hi]
theorem accTo_set (h v : List UInt32) (i : Nat) (hi : i < 8) (tl : List Value) :
    (u32s (accTo h v i) ++ tl).toArray.setIfInBounds i (.int .u32 (w32 (h.getD i 0 + v.getD i 0))) = (u32s (accTo h v (i + 1)) ++ tl).toArray := by
  have e : u32s (accTo h v (i + 1)) = (u32s (accTo h v i)).set i (.int .u32 (w32 (h.getD i 0 + v.getD i 0))) := by
    apply List.ext_getElem
    · simp [u32s_length, accTo_length]
    · intro j h1 h2
      rw [u32s_length, accTo_length] at h1
      rw [List.getElem_set]
      by_cases hij : i = j
      · subst hij
        simp [u32s, accTo]
      · rw [if_neg hij]
        simp only [u32s, accTo, List.getElem_map, List.getElem_range]
        have : (j < i + 1) ↔ j < i := by omega
        simp only [this]
  rw [e, List.setIfInBounds_toArray, List.set_append_left _ _ (by rw [u32s_length, accTo_length]; exact hi)]
end Go.Qk
end
section
namespace Go.Proofs.YtabkaflccaklhaaGreat
open Go.RowKit
open Go.Qk hiding rotr b4
attribute [local go_sem ↓ high] add_w32 and_w32 or_w32 xor_w32 shr_w32 shl_w32 shr3_w32 shr10_w32 shr8_w32 shr16_w32 shr24_w32 shl8_w32
attribute [local go_sem high] not_w32 max_xor_w32

set_option maxHeartbeats 400000
set_option maxRecDepth 100000
theorem szState : (Tryz.prog.info? 204).map (·.size) = some 8 := by kernel_rfl
theorem szWords : (Tryz.prog.info? 213).map (·.size) = some 64 := by kernel_rfl
def zeros (n : Nat) : List UInt32 := List.replicate n 0
theorem zeros_length (n : Nat) : (zeros n).length = n := by simp [zeros]

theorem shaBegin (w : World) :
    Calls Tryz.prog 149 #[] w fun e w' => e = .returned (.agg (u32s shaH).toArray) ∧ Below w.heap.size w w' := by
  go_enter Tryz.func149, Tryz.ntmps149
  apply wp_seq_k; intro _ _; apply wp_region_lit
  refine wpList_val (v := .pointer (some ⟨w.heap.size, 0, none⟩)) (w' := w.alloc (.cells (u32s (zeros 8)).toArray 204)) rfl (by kernel_rfl) ?_
  have hg0 : (w.alloc (.cells (u32s (zeros 8)).toArray 204)).heap[w.heap.size]? = some (.cells (u32s (zeros 8)).toArray 204 (0, 0)) := heap_alloc_new _ _
  have hb0 : Below w.heap.size w (w.alloc (.cells (u32s (zeros 8)).toArray 204)) := (Below.refl _ _).alloc (Nat.le_refl _) _
  generalize w.alloc (.cells (u32s (zeros 8)).toArray 204) = W at *
  have HG := hid hg0
  have HB := hid hb0
  clear hg0 hb0
  simp only [Act.put, List.setIfInBounds_toArray, List.set_cons_zero, List.set_cons_succ]
  refine wpList_nil ?_
  go_upto_region 1 with (fail)
  apply wp_region_lit
  refine wpList_val (v := .agg (u32s shaH).toArray) (w' := W) rfl (by kernel_rfl) ?_
  simp only [Act.put, List.setIfInBounds_toArray, List.set_cons_zero, List.set_cons_succ]
  refine wpList_store_agg rfl rfl 204 (.tmp 0) (.tmp 1) rfl w.heap.size 0 rfl (u32s shaH) rfl _ _ HG.out szState (by simp [u32s_length, zeros_length]; decide) (u32s_one _) ?_
  have hg1 := heap_setRow_same (cs := ((u32s (zeros 8)).toArray.toList.take 0 ++ u32s shaH ++ (u32s (zeros 8)).toArray.toList.drop (0 + (u32s shaH).length)).toArray) HG.out
  have e1 : ((u32s (zeros 8)).toArray.toList.take 0 ++ u32s shaH ++ (u32s (zeros 8)).toArray.toList.drop (0 + (u32s shaH).length)) = u32s shaH := by rfl
  rw [e1] at hg1 ⊢
  have HG1 := hid hg1
  have HB1 := hid (below_setRow' HB.out (Nat.le_refl _) (u32s shaH).toArray)
  clear hg1 e1
  generalize W.setRow w.heap.size (u32s shaH).toArray = W1 at *
  refine wpList_nil ?_
  go_wp2
  refine bodyPost_ret (v := .agg (u32s shaH).toArray) (results_cell_row rfl _ _ w.heap.size 204 _ (0, 0) _ rfl HG1.out Tryz.underlying204 rfl (by rw [szState]; rfl)) rfl ⟨rfl, HB1.out⟩
theorem shaConstants (w : World) :
    Calls Tryz.prog 162 #[] w fun e w' => e = .returned (.agg (u32s shaK).toArray) ∧ Below w.heap.size w w' := by
  go_enter Tryz.func162, Tryz.ntmps162
  apply wp_seq_k; intro _ _; apply wp_region_lit
  refine wpList_val (v := .pointer (some ⟨w.heap.size, 0, none⟩)) (w' := w.alloc (.cells (u32s (zeros 64)).toArray 213)) rfl (by kernel_rfl) ?_
  have hg0 : (w.alloc (.cells (u32s (zeros 64)).toArray 213)).heap[w.heap.size]? = some (.cells (u32s (zeros 64)).toArray 213 (0, 0)) := heap_alloc_new _ _
  have hb0 : Below w.heap.size w (w.alloc (.cells (u32s (zeros 64)).toArray 213)) := (Below.refl _ _).alloc (Nat.le_refl _) _
  generalize w.alloc (.cells (u32s (zeros 64)).toArray 213) = W at *
  have HG := hid hg0
  have HB := hid hb0
  clear hg0 hb0
  simp only [Act.put, List.setIfInBounds_toArray, List.set_cons_zero, List.set_cons_succ]
  refine wpList_nil ?_
  go_upto_region 1 with (fail)
  apply wp_region_lit
  refine wpList_val (v := .agg (u32s shaK).toArray) (w' := W) rfl (by kernel_rfl) ?_
  simp only [Act.put, List.setIfInBounds_toArray, List.set_cons_zero, List.set_cons_succ]
  refine wpList_store_agg rfl rfl 213 (.tmp 0) (.tmp 1) rfl w.heap.size 0 rfl (u32s shaK) rfl _ _ HG.out szWords (by simp [u32s_length, zeros_length]; decide) (u32s_one _) ?_
  have hg1 := heap_setRow_same (cs := ((u32s (zeros 64)).toArray.toList.take 0 ++ u32s shaK ++ (u32s (zeros 64)).toArray.toList.drop (0 + (u32s shaK).length)).toArray) HG.out
  have e1 : ((u32s (zeros 64)).toArray.toList.take 0 ++ u32s shaK ++ (u32s (zeros 64)).toArray.toList.drop (0 + (u32s shaK).length)) = u32s shaK := by rfl
  rw [e1] at hg1 ⊢
  have HG1 := hid hg1
  have HB1 := hid (below_setRow' HB.out (Nat.le_refl _) (u32s shaK).toArray)
  clear hg1 e1
  generalize W.setRow w.heap.size (u32s shaK).toArray = W1 at *
  refine wpList_nil ?_
  go_wp2
  refine bodyPost_ret (v := .agg (u32s shaK).toArray) (results_cell_row rfl _ _ w.heap.size 213 _ (0, 0) _ rfl HG1.out Tryz.underlying213 rfl (by rw [szWords]; rfl)) rfl ⟨rfl, HB1.out⟩
end Go.Proofs.YtabkaflccaklhaaGreat
end
