/- Joined: QRefA QRefB QRefC QRefP QRefD QRefF. -/
import Derived.Test.YtabkaflccaklhaaGreatQSha1
import Derived.Test.YtabkaflccaklhaaGreatQBase1
import Derived.Test.YtabkaflccaklhaaGreatQSha2
set_option linter.unusedSimpArgs false
set_option linter.unusedVariables false
section
namespace Go.Proofs.YtabkaflccaklhaaGreat
open Go.RowKit Go.Qk
attribute [local go_sem ↓ high] add_w32 and_w32 or_w32 xor_w32 shr_w32 shl_w32 shr3_w32 shr10_w32 shr8_w32 shr16_w32 shr24_w32 shl8_w32
attribute [local go_sem high] not_w32 max_xor_w32

set_option maxHeartbeats 1000000
set_option maxRecDepth 100000
theorem rotr_or (x : UInt32) (n : Nat) (hn : n < 32) : (x >>> UInt32.ofNat n) ||| (x <<< UInt32.ofNat (32 - n)) = rotr x n := by
  unfold rotr rotl
  rw [show 32 - (32 - n) = n from by omega, UInt32.or_comm]
theorem refTurn (x : UInt32) (n : Nat) (h0 : 0 < n) (hn : n < 32) (w : World) :
    Calls Tryz.prog 148 #[.int .u32 (w32 x), .int .i64 n] w fun e w' => e = .returned (.int .u32 (w32 (rotr x n))) ∧ Below w.heap.size w w' := by
  have HR := hid (rotr_or x n hn)
  have e1 : (32 : Int) - n = ((32 - n : Nat) : Int) := by omega
  have hm2 : 32 - n < 32 := by omega
  have e2 : IntKind.i64.wrap ((32 - n : Nat) : Int) = ((32 - n : Nat) : Int) := by simp [IntKind.wrap, IntKind.signed, IntKind.bits]; omega
  go_enter Tryz.func148, Tryz.ntmps148
  go_wp2
  (refine' wp_region_head 9 0 [_, _, _, _, _, _, _, _, _] rfl (by kernel_rfl) (by kernel_rfl) ?hreg1; case' hreg1 => simp only [List.take_succ_cons, List.take_zero, List.zip_cons_cons, List.zip_nil_right, List.drop_succ_cons, List.drop_zero, List.drop_nil])
  (iterate 9 (refine' head_val ?_ ?_ ?_ ?_; rotate_left; (· rfl); (· first | exact fun _ _ _ => trivial | (intro t ht w; cases ht; simp [upE])); (· intro w' hw' _; go_simp; with_reducible rfl); simp only [Act.put, List.setIfInBounds_toArray, List.set_cons_zero, List.set_cons_succ]))
  refine head_nil ?_
  intro w1 hw1 _
  refine wpList_nil ?_
  go_wp2
  go_ret
  exact ⟨by rw [HR.out]; rfl, hw1⟩

theorem refNumber8 (v : Nat) (hv : v < 18446744073709551616) (w : World) :
    Calls Tryz.prog 113 #[.int .u64 v, .int .i64 8] w fun e w' => e = .returned (.tuple #[.string (bs (be 8 v)), .bool true]) ∧ Below w.heap.size w w' := by
  have HV := hid hv
  clear hv
  go_enter Tryz.func113, Tryz.ntmps113
  go_wp2
  go_loopg [0, 6, 7] 9 (fun q x s i wr => ∃ k : Nat, k ≤ 8 ∧ q = 9 - k ∧ i = .int .i64 k ∧ x = .int .u64 ((v / 256 ^ k : Nat) : Int) ∧ s = .string (bs (be k v)) ∧ Hid (Grow w wr))
  case atStart => exact ⟨0, by omega, rfl, rfl, by simp, rfl, Below.refl _ _⟩
  case round =>
    obtain ⟨k, hk, hq, rfl, rfl, rfl, hB⟩ := hrel
    by_cases hlt : k < 8
    · have hbe := be_cons k v
      have hx := u8_of (v / 256 ^ k % 256) (Nat.mod_lt _ (by omega))
      have hwr : IntKind.u64.wrap (((v / 256 ^ k : Nat) : Int) / 256) = ((v / 256 ^ (k + 1) : Nat) : Int) := by
        have h1 : v / 256 ^ k ≤ v := Nat.div_le_self _ _
        have h2 := HV.out
        rw [Nat.pow_succ, ← Nat.div_div_eq_div_mul]
        generalize v / 256 ^ k = y at *
        simp [IntKind.wrap, IntKind.signed, IntKind.bits]
        omega
      have hm : ((v / 256 ^ k : Nat) : Int) % 256 = ((v / 256 ^ k % 256 : Nat) : Int) := by simp
      have hcat : bs [UInt8.ofNat (v / 256 ^ k % 256)] ++ bs (be k v) = bs (be (k + 1) v) := by rw [bs_append, hbe]; rfl
      have hs1 : (bs [UInt8.ofNat (v / 256 ^ k % 256)]).size = 1 := by rw [bs_size]; rfl
      have hs2 : (bs (be k v)).size = k := by rw [bs_size, be_length]
      generalize hxk : v / 256 ^ k = xk at *
      have hcv := fun (W : World) (h : W.heap[wr.heap.size]? = some (.cells (u8s [UInt8.ofNat (xk % 256)]).toArray 5 (0, 0))) => run_str_block (P := Tryz.prog) W 85 5 9 5 Tryz.underlying85 Tryz.underlying5 Tryz.underlying9 wr.heap.size 1 [UInt8.ofNat (xk % 256)] (0, 0) h 1 rfl
      have hcv2 : (convert 85 9 (.slice (some ⟨wr.heap.size, 0, none⟩) 1 1)).run Tryz.prog (wr.alloc (.cells #[.int .u8 ((xk : Int) % 256)] 5)) = .ok (.string (bs [UInt8.ofNat (xk % 256)])) (wr.alloc (.cells #[.int .u8 ((xk : Int) % 256)] 5)) := by
        apply hcv
        rw [heap_alloc_new, hm, ← hx]
        rfl
      clear hcv hx hbe hxk hm
      generalize bs [UInt8.ofNat (xk % 256)] = c1 at *
      generalize h3 : bs (be (k + 1) v) = c3 at *
      have H3 := hid h3
      clear h3
      generalize bs (be k v) = c2 at *
      go_wp2
      go_roundg (9 - (k + 1))
      case rel => exact ⟨k + 1, by omega, rfl, by go_num, rfl, by rw [H3.out], hB.out.alloc' _⟩
      case measure => omega
    · obtain rfl : k = 8 := by omega
      go_wp2
      go_ret2
      exact ⟨rfl, hB.out⟩
/-- Bytes as a number. -/
def val (l : List UInt8) : Nat := l.foldl (fun x b => 256 * x + b.toNat) 0
theorem val_snoc (l : List UInt8) (k : Nat) (h : k < l.length) : val (l.take (k + 1)) = 256 * val (l.take k) + (l.getD k 0).toNat := by
  rw [List.take_succ_eq_append_getElem h]
  unfold val
  rw [List.foldl_append]
  simp [h]
theorem val_lt (l : List UInt8) (k : Nat) : val (l.take k) < 256 ^ k := by
  induction k with
  | zero => simp [val]
  | succ k ih =>
    by_cases h : k < l.length
    · rw [val_snoc l k h, Nat.pow_succ]
      have := (l.getD k 0).toNat_lt
      omega
    · rw [List.take_of_length_le (by omega)]
      rw [List.take_of_length_le (by omega)] at ih
      rw [Nat.pow_succ]
      omega
theorem refValue (l : List UInt8) (hl : l.length ≤ 4) (w : World) :
    Calls Tryz.prog 147 #[.string (bs l)] w fun e w' => e = .returned (.int .u64 (val l)) ∧ Below w.heap.size w w' := by
  have hs := bs_size l
  go_enter Tryz.func147, Tryz.ntmps147
  go_wp2
  go_loopg [3, 4] (l.length + 1) (fun q x i wr => ∃ k : Nat, k ≤ l.length ∧ q = l.length + 1 - k ∧ i = .int .i64 k ∧ x = .int .u64 (val (l.take k)) ∧ Hid (Grow w wr))
  case atStart => exact ⟨0, by omega, rfl, rfl, rfl, Below.refl _ _⟩
  case round =>
    obtain ⟨k, hk, hq, rfl, rfl, hB⟩ := hrel
    by_cases hlt : k < l.length
    · have hix : ∀ w, (Instr.index 9 (.string (bs l)) (.int .i64 k)).run Tryz.prog w = .ok (.int .u8 (b8 l k)) w := fun w => by
        have := run_index_str (P := Tryz.prog) 9 (bs l) k (by omega) k rfl w Tryz.underlying9
        rw [bl_bs] at this
        exact this
      have h0 := b8_lo l k
      have h1 := b8_hi l k
      have HVS := hid (show ((val (l.take (k + 1)) : Nat) : Int) = 256 * (val (l.take k) : Int) + b8 l k by rw [val_snoc l k hlt, b8]; omega)
      have hvl : val (l.take k) < 16777216 := by
        have h2 := val_lt l k
        have h3 : 256 ^ k ≤ 256 ^ 3 := Nat.pow_le_pow_right (by omega) (by omega)
        omega
      generalize val (l.take k) = v0 at *
      generalize b8 l k = b at *
      go_wp2
      go_roundg (l.length + 1 - (k + 1))
      case rel => exact ⟨k + 1, by omega, rfl, by go_num, by rw [HVS.out], hB⟩
      case measure => omega
    · go_wp2
      go_ret
      exact ⟨by rw [List.take_of_length_le (by omega)]; rfl, hB.out⟩
end Go.Proofs.YtabkaflccaklhaaGreat
end
section
namespace Go.Proofs.YtabkaflccaklhaaGreat
open Go.RowKit Go.Qk

set_option maxHeartbeats 1000000
set_option maxRecDepth 100000
/-- A row of words that is read. -/
def U32At (w : World) (ad : Addr) (l : List UInt32) : Prop := ∀ i, i < l.length → w.cell? (ad.add i) = some (.int .u32 (w32 (l.getD i 0)))
theorem U32At.grow {w w' : World} {ad : Addr} {l : List UInt32} (h : U32At w ad l) (hg : Grow w w') : U32At w' ad l := fun i hi => grow_cell (h i hi) hg
theorem u32At_own {w : World} {B : Nat} {e : TypeId} {g n cap : Nat} {l : List UInt32} (h : w.ownsRow B e 1 (.slice (some ⟨g, 0, none⟩) n cap) n (u32s l)) : U32At w ⟨g, 0, none⟩ l := fun i hi => World.ownsRow.cells h (g := g) rfl i _ (u32s_get l i hi)

theorem u8q (x : UInt32) : [Value.int .u8 (w32 x / 16777216 % 256), .int .u8 (w32 x / 65536 % 256), .int .u8 (w32 x / 256 % 256), .int .u8 (w32 x % 256)] = u8s (b4 x) := by
  have h := x.toNat_lt
  simp only [u8s, b4, List.map_cons, List.map_nil, w32, UInt32.toNat_shiftRight, UInt8.toNat_ofNat]
  simp [Nat.shiftRight_eq_div_pow]

theorem refBytes (l : List UInt32) (hl : l.length = 8) (ad : Addr) (c : Nat) (w : World) (hc : U32At w ad l) :
    Calls Tryz.prog 122 #[.slice (some ad) 8 c] w fun e w' => e = .returned (.string (bs (l.flatMap b4))) ∧ Below w.heap.size w w' := by
  have HC := hid hc
  clear hc
  go_enter Tryz.func122, Tryz.ntmps122
  go_wp2
  go_loopg [3, 4] 9 (fun g v i wr => ∃ k : Nat, k ≤ 8 ∧ g = 8 - k + 1 ∧ i = .int .i64 k ∧ Hid (Buf 5 w.heap.size wr v (outB l k)) ∧ Hid (Below w.heap.size w wr) ∧ Hid (w.heap.size ≤ wr.heap.size))
  case atStart =>
    refine ⟨0, by omega, by omega, rfl, ?_, (Below.refl _ _).alloc (Nat.le_refl _) _, hid (by simp)⟩
    exact buf_alloc w _ [] 0 rfl (by decide)
  case round =>
    obtain ⟨k, hk, hg, rfl, hO, hB, hL⟩ := hrel
    by_cases hlt : k < 8
    · have k0 : (0 : Int) ≤ (k : Int) := by omega
      have hc' : wr.cell? (ad.add k) = some (.int .u32 (w32 (l.getD k 0))) := (hB.out.cell (block_lt_of_cell (HC.out k (by omega)))).trans (HC.out k (by omega))
      have ht : outB l (k + 1) = outB l k ++ b4 (l.getD k 0) := by
        unfold outB
        rw [List.take_succ_eq_append_getElem (by omega), List.flatMap_append]
        simp [show k < l.length by omega]
      have hlen : (outB l k).length ≤ 32 := by
        unfold outB
        have : ∀ m : List UInt32, (m.flatMap b4).length = 4 * m.length := by
          intro m
          induction m with
          | nil => rfl
          | cons a m ih => rw [List.flatMap_cons, List.length_append, ih, b4_length, List.length_cons]; omega
        rw [this, List.length_take]
        omega
      have HT := hid ht
      have HLN := hid hlen
      clear ht hlen
      generalize l.getD k 0 = x at *
      have w0 := w32_lo x
      go_wp2_with (at_builtin; refine app_cells (w0 := w) (B := w.heap.size) (.tmp 17) (.tmp 32) 85 5 (.int .u8 0) 1 1 _ (outB l k).length (u8s (outB l k)) [.int .u8 (w32 x / 16777216 % 256), .int .u8 (w32 x / 65536 % 256), .int .u8 (w32 x / 256 % 256), .int .u8 (w32 x % 256)] ⟨wr.heap.size, 0, none⟩ 4 4 rfl rfl Tryz.underlying85 infoU8 rfl (by decide) rfl rfl rfl ?h2 ?h3 ?h1 ?h4 ?h6 ?h5 ?h7 ?_)
      case h2 => exact fun j u h => cells_new wr _ _ j u h
      case h3 => intro u hu; rw [u8q] at hu; exact u8s_one _ u hu
      case h1 => exact World.ownsRow.alloc hO.out _
      case h4 => exact hB.out.alloc hL.out _
      case h6 => simp; exact Nat.le_succ_of_le hL.out
      case h5 => have := HLN.out; omega
      case h7 => have := HLN.out; omega
      intro v' w5 hown hb5 hs5
      rw [u8q, ← u8s_append, ← HT.out] at hown
      have hown' : Buf 5 w.heap.size w5 v' (outB l (k + 1)) := by
        unfold Buf
        have e : (outB l (k + 1)).length = (outB l k).length + 4 := by rw [HT.out, List.length_append, b4_length]
        rw [e]
        exact hown
      have HO5 := hid hown'
      have HB5 := hid hb5
      have HS5 := hid hs5
      clear hown hown' hb5 hs5
      go_wp2
      go_roundg (8 - (k + 1) + 1)
      case rel => exact ⟨k + 1, by omega, rfl, by go_num, HO5, HB5, HS5⟩
      case measure => omega
    · obtain rfl : k = 8 := by omega
      have hcv := buf_str (P := Tryz.prog) 85 5 9 Tryz.underlying85 Tryz.underlying5 Tryz.underlying9 _ _ hO.out
      unfold outB at hcv
      rw [List.take_of_length_le (by omega)] at hcv
      go_wp2
      go_ret
      exact ⟨rfl, hB.out⟩
end Go.Proofs.YtabkaflccaklhaaGreat
end
section
namespace Go.Proofs.YtabkaflccaklhaaGreat
open Go.RowKit
open Go.Qk hiding rotr b4

set_option maxHeartbeats 1000000
set_option maxRecDepth 100000
/-- A text, padded. -/
def padded (l : List UInt8) : List UInt8 := l ++ (128 :: (List.replicate ((119 - l.length % 64) % 64) 0 ++ be 8 (l.length * 8)))
theorem refPadded (l : List UInt8) (hl : l.length ≤ 140737488355328) (w : World) :
    Calls Tryz.prog 120 #[.string (bs l)] w fun e w' => e = .returned (.string (bs (padded l))) ∧ Below w.heap.size w w' := by
  have hs := bs_size l
  have hcat : bs l ++ (⟨#[128]⟩ : ByteArray) = bs (l ++ [128]) := bs_append l [128]
  have hs1 : (⟨#[128]⟩ : ByteArray).size = 1 := rfl
  go_enter Tryz.func120, Tryz.ntmps120
  go_wp2
  clear hcat hs1
  have hs0 : (⟨#[0]⟩ : ByteArray).size = 1 := rfl
  go_loopg [3] 64 (fun q v wr => ∃ k : Nat, k ≤ (119 - l.length % 64) % 64 ∧ q = 64 - k ∧ v = .string (bs (l ++ [128] ++ List.replicate k 0)) ∧ Hid (Grow w wr))
  case atStart => exact ⟨0, by omega, rfl, by simp, Below.refl _ _⟩
  case round =>
    obtain ⟨k, hk, hq, rfl, hB⟩ := hrel
    have hz : (bs (l ++ [128] ++ List.replicate k 0)).size = l.length + 1 + k := by rw [bs_size]; simp; omega
    have hca : bs (l ++ [128] ++ List.replicate k 0) ++ (⟨#[0]⟩ : ByteArray) = bs (l ++ [128] ++ List.replicate (k + 1) 0) := by
      rw [List.replicate_succ', ← List.append_assoc]
      exact bs_append _ [0]
    by_cases hlt : k < (119 - l.length % 64) % 64
    · have t1 : (((l.length + 1 + k : Nat) : Int) % 64 != 56) = true := by rw [bne_iff_ne]; omega
      have t2 : (((l.length : Int) + 1 + (k : Int)) % 64 != 56) = true := by rw [bne_iff_ne]; omega
      have H3 := hid hca
      generalize bs (l ++ [128] ++ List.replicate k 0) = x at *
      clear hca
      go_wp2
      go_roundg (64 - (k + 1))
      case rel => exact ⟨k + 1, by omega, rfl, by rw [H3.out], hB⟩
      case measure => omega
    · have HK := hid (show k = (119 - l.length % 64) % 64 by omega)
      have t1 : (((l.length + 1 + k : Nat) : Int) % 64 != 56) = false := by simp; omega
      have t2 : (((l.length : Int) + 1 + (k : Int)) % 64 != 56) = false := by simp; omega
      have hN := refNumber8 (l.length * 8) (by omega)
      rw [show ((l.length * 8 : Nat) : Int) = (l.length : Int) * 8 by omega] at hN
      have H4 := hid (show bs (l ++ [128] ++ List.replicate k 0) ++ bs (be 8 (l.length * 8)) = bs (padded l) by rw [HK.out, bs_append]; unfold padded; congr 1; simp)
      generalize bs (l ++ [128] ++ List.replicate k 0) = x at *
      have HY := hid (show (bs (be 8 (l.length * 8))).size ≤ 8 by rw [bs_size, be_length]; omega)
      generalize bs (be 8 (l.length * 8)) = y at *
      clear hca hlt hq
      have hk64 : k < 64 := by omega
      clear hk
      have hw1 : IntKind.u64.wrap (l.length : Int) = (l.length : Int) := by simp [IntKind.wrap, IntKind.signed, IntKind.bits]; omega
      have hw2 : IntKind.u64.wrap ((l.length : Int) * 8) = (l.length : Int) * 8 := by simp [IntKind.wrap, IntKind.signed, IntKind.bits]; omega
      have hn : 0 ≤ (l.length : Int) ∧ (l.length : Int) ≤ 1000000000000000 := by omega
      clear hl
      generalize l.length = n at *
      clear t1
      go_wp2_with fail
      refine (hN _).mono ?_
      rintro e w2 ⟨rfl, hb⟩
      have HB2 := hid (hB.out.trans hb)
      have hz2 : y.size ≤ 8 := HY.out
      have hzz : x.size ≤ 1000000000000100 := by omega
      clear hb hw1 hw2 hN hs hz t2
      go_wp2
      go_ret
      exact ⟨by rw [H4.out]; rfl, HB2.out⟩

theorem u32At_alloc {w : World} {g : Nat} {l : List UInt32} {t : TypeId} (h : w.heap[g]? = some (.cells (u32s l).toArray t (0, 0))) : U32At w ⟨g, 0, none⟩ l := by
  intro i hi
  have := cells_block (cs := u32s l) (tl := []) (by rw [List.append_nil]; exact h) i _ (u32s_get l i hi)
  exact this
theorem refKnown (w : World) :
    Calls Tryz.prog 119 #[] w fun e w' => ∃ g1 g2, e = .returned (.tuple #[.slice (some ⟨g1, 0, none⟩) 8 8, .slice (some ⟨g2, 0, none⟩) 64 64]) ∧ U32At w' ⟨g1, 0, none⟩ shaH ∧ U32At w' ⟨g2, 0, none⟩ shaK ∧ Below w.heap.size w w' := by
  go_enter Tryz.func119, Tryz.ntmps119
  go_wp2_with fail
  go_ret2
  refine ⟨_, _, rfl, ?_, ?_, ?_⟩
  · refine u32At_alloc (t := 199) ?_
    exact heap_alloc2_old _ _ _
  · refine u32At_alloc (t := 199) ?_
    exact heap_alloc2_new _ _ _
  · exact ((Below.refl _ _).alloc (Nat.le_refl _) _).alloc (by simp) _
end Go.Proofs.YtabkaflccaklhaaGreat
end
section
namespace Go.Proofs.YtabkaflccaklhaaGreat
open Go.RowKit
open Go.Qk hiding rotr b4
theorem shl8_or (x : UInt32) (n : Nat) (hx : x.toNat < 16777216) (hn : n < 256) : ((x <<< 8) ||| UInt32.ofNat n).toNat = 256 * x.toNat + n := by
  have h1 : (UInt32.ofNat n).toNat = n := by simp [UInt32.toNat_ofNat]; omega
  have h2 : (x <<< 8).toNat = x.toNat * 2 ^ 8 := by
    simp [UInt32.toNat_shiftLeft, Nat.shiftLeft_eq]
    omega
  rw [UInt32.toNat_or, h1, h2, Nat.mul_comm, ← Nat.two_pow_add_eq_or_of_lt (show n < 2 ^ 8 by omega)]
theorem wAt_val (b : List UInt8) (k j : Nat) (hj : j ≤ 4) (h : 4 * k + j ≤ b.length) : (wAt b k j).toNat = val ((b.drop (4 * k)).take j) := by
  induction j with
  | zero => rfl
  | succ j ih =>
    have e := ih (by omega) (by omega)
    have hl := val_lt (b.drop (4 * k)) j
    have h3 : 256 ^ j ≤ 256 ^ 3 := Nat.pow_le_pow_right (by omega) (by omega)
    have hlt := (b.getD (4 * k + j) 0).toNat_lt
    rw [val_snoc _ _ (by rw [List.length_drop]; omega), ← e]
    show ((wAt b k j <<< 8) ||| UInt32.ofNat (b.getD (4 * k + j) 0).toNat).toNat = _
    rw [shl8_or _ _ (by omega) (by omega)]
    congr 1
    simp
theorem ch_or (e f g : UInt32) : (e &&& f) ||| (~~~e &&& g) = (e &&& f) ^^^ (~~~e &&& g) := by
  apply UInt32.toBitVec_inj.1
  simp only [UInt32.toBitVec_or, UInt32.toBitVec_and, UInt32.toBitVec_not, UInt32.toBitVec_xor]
  apply BitVec.eq_of_getLsbD_eq
  intro i hi
  simp only [BitVec.getLsbD_or, BitVec.getLsbD_and, BitVec.getLsbD_not, BitVec.getLsbD_xor, hi, decide_true]
  cases e.toBitVec.getLsbD i <;> cases f.toBitVec.getLsbD i <;> cases g.toBitVec.getLsbD i <;> rfl
theorem maj_or (a b c : UInt32) : (a &&& b) ||| (a &&& c) ||| (b &&& c) = (a &&& b) ^^^ (a &&& c) ^^^ (b &&& c) := by
  apply UInt32.toBitVec_inj.1
  simp only [UInt32.toBitVec_or, UInt32.toBitVec_and, UInt32.toBitVec_not, UInt32.toBitVec_xor]
  apply BitVec.eq_of_getLsbD_eq
  intro i hi
  simp only [BitVec.getLsbD_or, BitVec.getLsbD_and, BitVec.getLsbD_not, BitVec.getLsbD_xor]
  cases a.toBitVec.getLsbD i <;> cases b.toBitVec.getLsbD i <;> cases c.toBitVec.getLsbD i <;> rfl
theorem not_toNat (x : UInt32) : (~~~x).toNat = 4294967295 - x.toNat := by
  have h := x.toNat_lt
  have : (~~~x).toNat = 2 ^ 32 - 1 - x.toNat := by
    rw [← UInt32.toNat_toBitVec, UInt32.toBitVec_not, BitVec.toNat_not]; rfl
  rw [this]
theorem sub_w32 (x : UInt32) : Op.intArith .sub .u32 4294967295 (w32 x) = pure (.int .u32 (w32 (~~~x))) := by
  have h := x.toNat_lt
  have e : IntKind.u32.wrap (4294967295 - (x.toNat : Int)) = ((4294967295 - x.toNat : Nat) : Int) := by
    simp [IntKind.wrap, IntKind.signed, IntKind.bits]; omega
  simp only [w32, not_toNat]
  simp [Op.intArith, e]
theorem sub_max_w32 (x : UInt32) : Op.intArith .sub .u32 IntKind.u32.max (w32 x) = pure (.int .u32 (w32 (~~~x))) := sub_w32 x
theorem refExt_eq (ws : List UInt32) (i : Nat) : ws.getD (i - 16) 0 + (rotr (ws.getD (i - 15) 0) 7 ^^^ rotr (ws.getD (i - 15) 0) 18 ^^^ ws.getD (i - 15) 0 >>> 3) + ws.getD (i - 7) 0 +
    (rotr (ws.getD (i - 2) 0) 17 ^^^ rotr (ws.getD (i - 2) 0) 19 ^^^ ws.getD (i - 2) 0 >>> 10) = ext ws i := rfl
theorem refRnd_eq (v : List UInt32) (k w : UInt32) : rnd v k w =
  [v.getD 7 0 + (rotr (v.getD 4 0) 6 ^^^ rotr (v.getD 4 0) 11 ^^^ rotr (v.getD 4 0) 25) + ((v.getD 4 0 &&& v.getD 5 0) ||| (~~~v.getD 4 0 &&& v.getD 6 0)) + k + w +
    ((rotr (v.getD 0 0) 2 ^^^ rotr (v.getD 0 0) 13 ^^^ rotr (v.getD 0 0) 22) + ((v.getD 0 0 &&& v.getD 1 0) ||| (v.getD 0 0 &&& v.getD 2 0) ||| (v.getD 1 0 &&& v.getD 2 0))),
   v.getD 0 0, v.getD 1 0, v.getD 2 0,
   v.getD 3 0 + (v.getD 7 0 + (rotr (v.getD 4 0) 6 ^^^ rotr (v.getD 4 0) 11 ^^^ rotr (v.getD 4 0) 25) + ((v.getD 4 0 &&& v.getD 5 0) ||| (~~~v.getD 4 0 &&& v.getD 6 0)) + k + w),
   v.getD 4 0, v.getD 5 0, v.getD 6 0] := by
  rw [ch_or, maj_or]
  rfl
/-- The first so many words of a sum. -/
def addTo (h v : List UInt32) (i : Nat) : List UInt32 := (List.range i).map fun j => h.getD j 0 + v.getD j 0
theorem addTo_succ (h v : List UInt32) (i : Nat) : addTo h v (i + 1) = addTo h v i ++ [h.getD i 0 + v.getD i 0] := by simp [addTo, List.range_succ]
end Go.Proofs.YtabkaflccaklhaaGreat
end
section
namespace Go.Proofs.YtabkaflccaklhaaGreat
open Go.RowKit
open Go.Qk hiding rotr b4
attribute [local go_sem ↓ high] add_w32 and_w32 or_w32 xor_w32 shr_w32 shl_w32 shr3_w32 shr10_w32 shr8_w32 shr16_w32 shr24_w32 shl8_w32 sub_w32
attribute [local go_sem high] not_w32 max_xor_w32 sub_max_w32

set_option maxHeartbeats 3000000
set_option maxRecDepth 100000
theorem row_alloc (w : World) (e : TypeId) : (w.alloc (.cells #[] e)).ownsRow w.heap.size e 1 (.slice (some ⟨w.heap.size, 0, none⟩) 0 0) 0 [] :=
  World.ownsRow_made _ #[] 0 (Nat.le_refl _) (by decide) (by simp)
/-- A row of words of the call's own. -/
def URow (B : Nat) (w : World) (v : Value) (l : List UInt32) : Prop := w.ownsRow B 199 1 v l.length (u32s l)
theorem own_base {w : World} {B B' : Nat} {e : TypeId} {sz n : Nat} {v : Value} {xs : List Value} (h : w.ownsRow B e sz v n xs) (hB : B' ≤ B) : w.ownsRow B' e sz v n xs := by
  refine ⟨h.1, ?_⟩
  rcases h.2 with h | ⟨g, cap, cur, h1, h2, h3⟩
  · exact .inl h
  · exact .inr ⟨g, cap, cur, h1, Nat.le_trans hB h2, h3⟩
theorem u32At_news {w : World} {ad : Addr} {l : List UInt32} (h : U32At w ad l) (j : Nat) (u : Value) (hj : (u32s l)[j]? = some u) : w.cell? (ad.add j) = some u := by
  have hlt : j < l.length := by
    rcases Nat.lt_or_ge j l.length with h1 | h1
    · exact h1
    · rw [List.getElem?_eq_none (by rw [u32s_length]; exact h1)] at hj
      exact absurd hj (by simp)
  rw [u32s_get l j hlt] at hj
  rw [← hj]
  exact h j hlt
theorem u32At_off {w : World} {g : Nat} {l : List UInt32} (h : U32At w ⟨g, 0, none⟩ l) (i : Nat) (hi : i < l.length) : w.cell? ⟨g, i, none⟩ = some (.int .u32 (w32 (l.getD i 0))) := by
  rw [← addr_add]; exact h i hi
theorem refOne (h : List UInt32) (hh : h.length = 8) (adh adk : Addr) (ch ck : Nat) (b : List UInt8) (hb : b.length = 64) (w : World) (hh8 : U32At w adh h) (hk64 : U32At w adk shaK) :
    Calls Tryz.prog 121 #[.slice (some adh) 8 ch, .slice (some adk) 64 ck, .string (bs b)] w fun e w' => ∃ v, e = .returned v ∧ w'.ownsRow w.heap.size 199 1 v 8 (u32s (shaAdd h b)) ∧ Below w.heap.size w w' := by
  have HH := hid hh
  have HB64 := hid hb
  have H8 := hid hh8
  have HK := hid hk64
  have hs : (bs b).size = 64 := by rw [bs_size]; exact hb
  clear hh8 hk64 hh hb
  go_enter Tryz.func121, Tryz.ntmps121
  go_wp2_with fail
  go_loopg [7, 8] 17 (fun q v i wr => ∃ k : Nat, k ≤ 16 ∧ q = 17 - k ∧ i = .int .i64 k ∧ Hid (wr.ownsRow w.heap.size 199 1 v k (u32s (wordsOf b k))) ∧ Hid (Below w.heap.size w wr) ∧ Hid (w.heap.size ≤ wr.heap.size))
  case atStart => exact ⟨0, by omega, by omega, rfl, row_alloc _ _, (Below.refl _ _).alloc (Nat.le_refl _) _, hid (by simp)⟩
  case round =>
    obtain ⟨k, hk, hq, rfl, hO, hB, hL⟩ := hrel
    by_cases hlt : k < 16
    · have hx := bs_extract b (4 * k) (4 * k + 4)
      have hv := wAt_val b k 4 (by omega) (by have := HB64.out; omega)
      go_wp2_with fail
      refine (refValue ((b.drop (4 * k)).take 4) (by rw [List.length_take]; omega) _).mono ?_
      rintro e w3 ⟨rfl, hb3⟩
      rw [← hv]
      have hO3 := own_grow hO.out hb3
      have HO3 := hid hO3
      have HB3 := hid (below_grow hB.out hL.out hb3)
      have HL3 := hid (Nat.le_trans hL.out hb3.size)
      clear hO3 hb3 hx hv hO hB hL
      have w0 := w32_lo (wAt b k 4)
      have w1 := w32_hi (wAt b k 4)
      have hwr : IntKind.u32.wrap (w32 (wAt b k 4)) = w32 (wAt b k 4) := by simp [IntKind.wrap, IntKind.signed, IntKind.bits]; omega
      have HW := hid (show wordsOf b (k + 1) = wordsOf b k ++ [wAt b k 4] from wordsOf_succ b k)
      clear w0 w1
      change Hid _ at HW
      rw [show (((wAt b k 4).toNat : Nat) : Int) = w32 (wAt b k 4) from rfl]
      generalize wAt b k 4 = x at *
      go_wp2_with (at_builtin; refine app_cells (w0 := w) (B := w.heap.size) (.tmp 25) (.tmp 35) 172 199 (.int .u32 0) 1 4 _ k (u32s (wordsOf b k)) [.int .u32 (w32 x)] ⟨w3.heap.size, 0, none⟩ 1 1 rfl rfl Tryz.underlying172 infoU32 rfl (by decide) rfl rfl rfl ?h2 ?h3 ?h1 ?h4 ?h6 ?h5 ?h7 ?_)
      case h1 => exact HO3.out.alloc _
      case h2 => exact cell_one_new _ _ _
      case h3 => simp [Value.oneCell']
      case h4 => exact HB3.out.alloc HL3.out _
      case h5 => omega
      case h7 => omega
      case h6 => simp; exact Nat.le_succ_of_le HL3.out
      intro v' w4 hown' hb4 hs4
      have e4 : u32s (wordsOf b k) ++ [.int .u32 (w32 x)] = u32s (wordsOf b (k + 1)) := by rw [HW.out, u32s_append]; rfl
      rw [e4] at hown'
      have HO4 := hid hown'
      have HB4 := hid hb4
      have HS4 := hid hs4
      clear e4 hown' hb4 hs4
      go_wp2
      go_roundg (17 - (k + 1))
      case rel => exact ⟨k + 1, by omega, rfl, by go_num, HO4, HB4, HS4⟩
      case measure => omega
    · obtain rfl : k = 16 := by omega
      go_wp2_with fail
      have HO16 := hO
      have HB16 := hB
      have HL16 := hL
      go_loopg [7, 9] 49 (fun q v i wr => ∃ n : Nat, 16 ≤ n ∧ n ≤ 64 ∧ q = 65 - n ∧ i = .int .i64 n ∧ Hid (wr.ownsRow w.heap.size 199 1 v n (u32s (sched b (n - 16)))) ∧ Hid (Below w.heap.size w wr) ∧ Hid (w.heap.size ≤ wr.heap.size))
      case atStart => exact ⟨16, by omega, by omega, rfl, rfl, HO16.out, HB16, HL16⟩
      case round =>
        obtain ⟨n, hn0, hn, hq, rfl, hO, hB, hL⟩ := hrel
        clear HO16 HB16 HL16
        by_cases hlt : n < 64
        · have hl64 := sched_length b (n - 16)
          obtain ⟨gv, cap, rfl, hgv, hcap⟩ := own_form hO.out (by omega)
          have cg : ∀ j, j < n → ∀ w', Grow wr w' → w'.cell? ⟨gv, j, none⟩ = some (.int .u32 (w32 ((sched b (n - 16)).getD j 0))) := fun j hj w' hw' => u32At_off (u32At_own (own_grow hO.out hw')) j (by rw [hl64]; omega)
          have CG := hid cg
          clear cg hgv hcap
          have i1 : (n : Int) - 15 = ((n - 15 : Nat) : Int) := by omega
          have i2 : (n : Int) - 2 = ((n - 2 : Nat) : Int) := by omega
          have j1 : ((n - 15 : Nat) : Int) < n := by omega
          have j2 : ((n - 2 : Nat) : Int) < n := by omega
          have e1 : IntKind.i64.wrap ((n - 15 : Nat) : Int) = ((n - 15 : Nat) : Int) := by simp [IntKind.wrap, IntKind.signed, IntKind.bits]; omega
          have e2 : IntKind.i64.wrap ((n - 2 : Nat) : Int) = ((n - 2 : Nat) : Int) := by simp [IntKind.wrap, IntKind.signed, IntKind.bits]; omega
          have c1 := CG.out (n - 15) (by omega)
          have c2 := CG.out (n - 2) (by omega)
          have HX := hid (refExt_eq (sched b (n - 16)) n)
          generalize (sched b (n - 16)).getD (n - 15) 0 = x at *
          generalize (sched b (n - 16)).getD (n - 2) 0 = y at *
          clear hl64
          go_wp2
          (refine' wp_region_head 12 0 [_, _, _, _, _, _, _, _, _, _, _, _] rfl (by kernel_rfl) (by kernel_rfl) ?hreg2; case' hreg2 => simp only [List.take_succ_cons, List.take_zero, List.zip_cons_cons, List.zip_nil_right, List.drop_succ_cons, List.drop_zero, List.drop_nil])
          (iterate 12 (refine' head_val ?_ ?_ ?_ ?_; rotate_left; (· rfl); (· first | exact fun _ _ _ => trivial | (intro t ht w; cases ht; simp [upE])); (· intro w' hw' _; go_simp; with_reducible rfl); simp only [Act.put, List.setIfInBounds_toArray, List.set_cons_zero, List.set_cons_succ]))
          refine head_nil ?_
          intro w3 hw3 _
          refine wpList_nil ?_
          clear c1 c2 i1 i2 j1 j2 e1 e2
          have c1 := fun w' (hw' : Grow w3 w') => CG.out (n - 16) (by omega) w' (Grow.trans hw3 hw')
          have c2 := fun w' (hw' : Grow w3 w') => CG.out (n - 7) (by omega) w' (Grow.trans hw3 hw')
          have HB3 := hid (below_grow hB.out hL.out hw3)
          have HL3 := hid (Nat.le_trans hL.out hw3.size)
          have HO3 := hid (own_grow hO.out hw3)
          clear hw3
          generalize (sched b (n - 16)).getD (n - 16) 0 = x0 at *
          generalize (sched b (n - 16)).getD (n - 7) 0 = y0 at *
          have i1 : (n : Int) - 16 = ((n - 16 : Nat) : Int) := by omega
          have i2 : (n : Int) - 7 = ((n - 7 : Nat) : Int) := by omega
          have j1 : ((n - 16 : Nat) : Int) < n := by omega
          have j2 : ((n - 7 : Nat) : Int) < n := by omega
          have e1 : IntKind.i64.wrap ((n - 16 : Nat) : Int) = ((n - 16 : Nat) : Int) := by simp [IntKind.wrap, IntKind.signed, IntKind.bits]; omega
          have e2 : IntKind.i64.wrap ((n - 7 : Nat) : Int) = ((n - 7 : Nat) : Int) := by simp [IntKind.wrap, IntKind.signed, IntKind.bits]; omega
          go_wp2
          (refine' wp_region_head 31 2 [_, _, _, _, _, _, _, _, _, _, _, _, _, _, _, _, _, _, _, _, _, _, _, _, _, _, _, _, _, _, _] rfl (by kernel_rfl) (by kernel_rfl) ?hreg3; case' hreg3 => simp only [List.take_succ_cons, List.take_zero, List.zip_cons_cons, List.zip_nil_right, List.drop_succ_cons, List.drop_zero, List.drop_nil])
          (iterate 7 (refine' head_val ?_ ?_ ?_ ?_; rotate_left; (· rfl); (· first | exact fun _ _ _ => trivial | (intro t ht w; cases ht; simp [upE])); (· intro w' hw' _; go_simp; with_reducible rfl); simp only [Act.put, List.setIfInBounds_toArray, List.set_cons_zero, List.set_cons_succ]))
          (refine' head_call ?cw4 ?ce4 ?cr4 ?cc4 ?ch4; (case' cw4 => rfl); (case' ce4 => (first | exact fun _ _ _ => trivial | (intro t ht w; cases ht; simp [upE]))); (case' cr4 => (intro w'; go_simp; first | exact ⟨rfl, rfl⟩ | with_reducible rfl)); (case' cc4 => (intro w' hw' _; exact refTurn x 7 (by omega) (by omega) w')); (case' ch4 => (try simp only [Act.put, List.setIfInBounds_toArray, List.set_cons_zero, List.set_cons_succ])))
          (iterate 1 (refine' head_val ?_ ?_ ?_ ?_; rotate_left; (· rfl); (· first | exact fun _ _ _ => trivial | (intro t ht w; cases ht; simp [upE])); (· intro w' hw' _; go_simp; with_reducible rfl); simp only [Act.put, List.setIfInBounds_toArray, List.set_cons_zero, List.set_cons_succ]))
          (refine' head_call ?cw5 ?ce5 ?cr5 ?cc5 ?ch5; (case' cw5 => rfl); (case' ce5 => (first | exact fun _ _ _ => trivial | (intro t ht w; cases ht; simp [upE]))); (case' cr5 => (intro w'; go_simp; first | exact ⟨rfl, rfl⟩ | with_reducible rfl)); (case' cc5 => (intro w' hw' _; exact refTurn x 18 (by omega) (by omega) w')); (case' ch5 => (try simp only [Act.put, List.setIfInBounds_toArray, List.set_cons_zero, List.set_cons_succ])))
          (iterate 12 (refine' head_val ?_ ?_ ?_ ?_; rotate_left; (· rfl); (· first | exact fun _ _ _ => trivial | (intro t ht w; cases ht; simp [upE])); (· intro w' hw' _; go_simp; with_reducible rfl); simp only [Act.put, List.setIfInBounds_toArray, List.set_cons_zero, List.set_cons_succ]))
          (refine' head_call ?cw6 ?ce6 ?cr6 ?cc6 ?ch6; (case' cw6 => rfl); (case' ce6 => (first | exact fun _ _ _ => trivial | (intro t ht w; cases ht; simp [upE]))); (case' cr6 => (intro w'; go_simp; first | exact ⟨rfl, rfl⟩ | with_reducible rfl)); (case' cc6 => (intro w' hw' _; exact refTurn y 17 (by omega) (by omega) w')); (case' ch6 => (try simp only [Act.put, List.setIfInBounds_toArray, List.set_cons_zero, List.set_cons_succ])))
          (iterate 1 (refine' head_val ?_ ?_ ?_ ?_; rotate_left; (· rfl); (· first | exact fun _ _ _ => trivial | (intro t ht w; cases ht; simp [upE])); (· intro w' hw' _; go_simp; with_reducible rfl); simp only [Act.put, List.setIfInBounds_toArray, List.set_cons_zero, List.set_cons_succ]))
          (refine' head_call ?cw7 ?ce7 ?cr7 ?cc7 ?ch7; (case' cw7 => rfl); (case' ce7 => (first | exact fun _ _ _ => trivial | (intro t ht w; cases ht; simp [upE]))); (case' cr7 => (intro w'; go_simp; first | exact ⟨rfl, rfl⟩ | with_reducible rfl)); (case' cc7 => (intro w' hw' _; exact refTurn y 19 (by omega) (by omega) w')); (case' ch7 => (try simp only [Act.put, List.setIfInBounds_toArray, List.set_cons_zero, List.set_cons_succ])))
          (iterate 5 (refine' head_val ?_ ?_ ?_ ?_; rotate_left; (· rfl); (· first | exact fun _ _ _ => trivial | (intro t ht w; cases ht; simp [upE])); (· intro w' hw' _; go_simp; with_reducible rfl); simp only [Act.put, List.setIfInBounds_toArray, List.set_cons_zero, List.set_cons_succ]))
          refine head_abs (V := fun v w' => ∃ g, v = .slice (some ⟨g, 0, none⟩) 1 1 ∧ w'.cell? ⟨g, 0, none⟩ = some (.int .u32 (w32 (x0 + (rotr x 7 ^^^ rotr x 18 ^^^ x >>> 3) + y0 + (rotr y 17 ^^^ rotr y 19 ^^^ y >>> 10))))) ?wa ?st ?dd ?hh
          case wa => rfl
          · rintro v w1 w2 ⟨g, rfl, hc⟩ hg
            exact ⟨g, rfl, grow_cell hc hg⟩
          · intro w1 hw1 _
            refine does_val (v := .slice (some ⟨w1.heap.size, 0, none⟩) 1 1) (w' := w1.alloc (.cells #[.int .u32 (w32 (x0 + (rotr x 7 ^^^ rotr x 18 ^^^ x >>> 3) + y0 + (rotr y 17 ^^^ rotr y 19 ^^^ y >>> 10)))] 199)) (by go_simp) ⟨grow_alloc _ _, _, rfl, ?_⟩
            exact (cells_block (cs := [.int .u32 (w32 (x0 + (rotr x 7 ^^^ rotr x 18 ^^^ x >>> 3) + y0 + (rotr y 17 ^^^ rotr y 19 ^^^ y >>> 10)))]) (tl := []) (heap_alloc_new _ _) 0 _ rfl)
          rintro v ⟨_, gz, rfl, _⟩
          simp only [Act.put, List.setIfInBounds_toArray, List.set_cons_zero, List.set_cons_succ]
          refine head_nil ?_
          intro w4 hw4 hE
          have hE81 := hE 81
          unfold upE at hE81
          rw [if_pos rfl] at hE81
          obtain ⟨gz', hgz, hcz⟩ := hE81
          obtain rfl : gz = gz' := by injection hgz with h1 h2 h3; injection h1 with h1; injection h1
          clear hE hgz
          have HB4 := hid (below_grow HB3.out HL3.out hw4)
          have HL4 := hid (Nat.le_trans HL3.out hw4.size)
          have HO4 := hid (own_grow HO3.out hw4)
          have HCZ := hid hcz
          generalize hz : x0 + (rotr x 7 ^^^ rotr x 18 ^^^ x >>> 3) + y0 + (rotr y 17 ^^^ rotr y 19 ^^^ y >>> 10) = z at *
          clear hz
          clear c1 c2 i1 i2 j1 j2 e1 e2 hw4 HB3 HL3 HO3 hcz
          go_wp2_with (at_builtin; refine app_cells (w0 := w) (B := w.heap.size) (.tmp 51) (.tmp 81) 172 199 (.int .u32 0) 1 4 _ n (u32s (sched b (n - 16))) [.int .u32 (w32 z)] ⟨gz, 0, none⟩ 1 1 rfl rfl Tryz.underlying172 infoU32 rfl (by decide) rfl rfl rfl ?h2 ?h3 HO4.out HB4.out HL4.out ?h5 ?h7 ?_)
          case h2 =>
            intro j u hj
            have hj0 : j = 0 := by
              rcases j with _ | j
              · rfl
              · simp at hj
            subst hj0
            injection hj with hj
            subst hj
            exact HCZ.out
          case h3 => simp [Value.oneCell']
          case h5 => omega
          case h7 => omega
          intro v' w5 hown' hb5 hs5
          have e5 : u32s (sched b (n - 16)) ++ [.int .u32 (w32 z)] = u32s (sched b (n + 1 - 16)) := by
            rw [show n + 1 - 16 = (n - 16) + 1 from by omega]
            show _ = u32s (sched b (n - 16) ++ [ext (sched b (n - 16)) (16 + (n - 16))])
            rw [u32s_append, show 16 + (n - 16) = n from by omega, ← HX.out]
            rfl
          rw [e5] at hown'
          have HO5 := hid hown'
          have HB5 := hid hb5
          have HS5 := hid hs5
          clear e5 hown' hb5 hs5
          go_wp2
          go_roundg (65 - (n + 1))
          case rel => exact ⟨n + 1, by omega, by omega, rfl, by go_num, HO5, HB5, HS5⟩
          case measure => omega
        · obtain rfl : n = 64 := by omega
          obtain ⟨wo, rfl⟩ : ∃ wo : World, wo = wr := ⟨_, rfl⟩
          obtain ⟨gv, cap, rfl, hgv, hcap⟩ := own_form hO.out (by omega)
          have HWS := hid (u32At_own hO.out)
          have HG := hid (show Grow w wo from hB.out)
          have HWL := hid hL.out
          clear hO hB hL hgv hcap hq hn0 hn hlt hk
          go_wp2_with (at_builtin; refine app_cells (w0 := wo) (B := wo.heap.size) (.tmp 84) (.tmp 85) 172 199 (.int .u32 0) 1 4 _ 0 [] (u32s h) adh 8 ch rfl rfl Tryz.underlying172 infoU32 rfl (by decide) rfl rfl (by rw [u32s_length, HH.out]) ?h2 (u32s_one _) (row_alloc _ _) ((Below.refl _ _).alloc (Nat.le_refl _) _) (by simp) (by omega) (by omega) ?_)
          case h2 => exact fun j u hj => u32At_news ((H8.out.grow HG.out).grow (grow_alloc _ _)) j u hj
          intro v3 w3 hown3 hb3 hs3
          obtain ⟨g3, c3, rfl, hg3, hc3⟩ := own_form hown3 (by omega)
          have HV3 := hid (u32At_own hown3)
          have HG3 := hid (show Grow wo w3 from hb3)
          clear hown3 hb3 hs3 hg3 hc3
          go_wp2_with fail
          go_loopg [12, 13] 65 (fun q v i wr => ∃ n g c : Nat, n ≤ 64 ∧ q = 65 - n ∧ i = .int .i64 n ∧ v = .slice (some ⟨g, 0, none⟩) 8 c ∧ Hid (U32At wr ⟨g, 0, none⟩ (rnds h (sched b 48) n)) ∧ Hid (Grow wo wr))
          case atStart => exact ⟨0, g3, c3, by omega, rfl, rfl, rfl, HV3, HG3⟩
          case round =>
            obtain ⟨n, g, c, hn, hq, rfl, rfl, hV, hGk⟩ := hrel
            clear HV3 HG3
            by_cases hlt : n < 64
            · have HRN := hid (refRnd_eq (rnds h (sched b 48) n) (shaK.getD n 0) ((sched b 48).getD n 0))
              have hl8 := rnds_length h (sched b 48) HH.out n
              have HCW := hid (fun w' (hw' : Grow wr w') => u32At_off ((HWS.out.grow hGk.out).grow hw') n (by rw [sched_length]; omega))
              have HCK := hid (fun w' (hw' : Grow wr w') => (((HK.out.grow HG.out).grow hGk.out).grow hw') n (by simpa [shaK] using hlt))
              have cg := fun j (hj : j < 8) w' (hw' : Grow wr w') => u32At_off (hV.out.grow hw') j (by rw [hl8]; exact hj)
              have HS8 := hid (rnds_succ h (sched b 48) n)
              generalize shaK.getD n 0 = kn at *
              generalize (sched b 48).getD n 0 = wn at *
              generalize hvs : rnds h (sched b 48) n = vs at *
              have q0 := cg 0 (by omega)
              have q1 := cg 1 (by omega)
              have q2 := cg 2 (by omega)
              have q3 := cg 3 (by omega)
              have q4 := cg 4 (by omega)
              have q5 := cg 5 (by omega)
              have q6 := cg 6 (by omega)
              have q7 := cg 7 (by omega)
              generalize vs.getD 0 0 = v0 at *
              generalize vs.getD 1 0 = v1 at *
              generalize vs.getD 2 0 = v2 at *
              generalize vs.getD 3 0 = v3 at *
              generalize vs.getD 4 0 = v4 at *
              generalize vs.getD 5 0 = v5 at *
              generalize vs.getD 6 0 = v6 at *
              generalize vs.getD 7 0 = v7 at *
              have Q0 := hid q0
              have Q1 := hid q1
              have Q2 := hid q2
              have Q3 := hid q3
              have Q4 := hid q4
              have Q5 := hid q5
              have Q6 := hid q6
              have Q7 := hid q7
              clear cg q0 q1 q2 q3 q4 q5 q6 q7 hvs
              have r0 := Q0.out
              have r4 := Q4.out
              go_wp2
              (refine' wp_region_head 8 0 [_, _, _, _, _, _, _, _] rfl (by kernel_rfl) (by kernel_rfl) ?hreg8; case' hreg8 => simp only [List.take_succ_cons, List.take_zero, List.zip_cons_cons, List.zip_nil_right, List.drop_succ_cons, List.drop_zero, List.drop_nil])
              (iterate 8 (refine' head_val ?_ ?_ ?_ ?_; rotate_left; (· rfl); (· first | exact fun _ _ _ => trivial | (intro t ht w; cases ht; simp [upE])); (· intro w' hw' _; go_simp; with_reducible rfl); simp only [Act.put, List.setIfInBounds_toArray, List.set_cons_zero, List.set_cons_succ]))
              refine head_nil ?_
              intro w7 hw7 _
              refine wpList_nil ?_
              clear r0 r4
              have GR7 := hid hw7
              have r5 := fun w' (hw' : Grow w7 w') => Q5.out w' (Grow.trans hw7 hw')
              have r6 := fun w' (hw' : Grow w7 w') => Q6.out w' (Grow.trans hw7 hw')
              have r7 := fun w' (hw' : Grow w7 w') => Q7.out w' (Grow.trans hw7 hw')
              have r8 := fun w' (hw' : Grow w7 w') => HCW.out w' (Grow.trans hw7 hw')
              have r9 := fun w' (hw' : Grow w7 w') => HCK.out w' (Grow.trans hw7 hw')
              have n0 : (0 : Int) ≤ (n : Int) := by omega
              have n1 : (n : Int) < 64 := by omega
              clear hw7
              go_wp2
              (refine' wp_region_head 36 0 [_, _, _, _, _, _, _, _, _, _, _, _, _, _, _, _, _, _, _, _, _, _, _, _, _, _, _, _, _, _, _, _, _, _, _, _] rfl (by kernel_rfl) (by kernel_rfl) ?hreg9; case' hreg9 => simp only [List.take_succ_cons, List.take_zero, List.zip_cons_cons, List.zip_nil_right, List.drop_succ_cons, List.drop_zero, List.drop_nil])
              (iterate 4 (refine' head_val ?_ ?_ ?_ ?_; rotate_left; (· rfl); (· first | exact fun _ _ _ => trivial | (intro t ht w; cases ht; simp [upE])); (· intro w' hw' _; go_simp; with_reducible rfl); simp only [Act.put, List.setIfInBounds_toArray, List.set_cons_zero, List.set_cons_succ]))
              (refine' head_call ?cw10 ?ce10 ?cr10 ?cc10 ?ch10; (case' cw10 => rfl); (case' ce10 => (first | exact fun _ _ _ => trivial | (intro t ht w; cases ht; simp [upE]))); (case' cr10 => (intro w'; go_simp; first | exact ⟨rfl, rfl⟩ | with_reducible rfl)); (case' cc10 => (intro w' hw' _; exact refTurn v4 6 (by omega) (by omega) w')); (case' ch10 => (try simp only [Act.put, List.setIfInBounds_toArray, List.set_cons_zero, List.set_cons_succ])))
              (iterate 1 (refine' head_val ?_ ?_ ?_ ?_; rotate_left; (· rfl); (· first | exact fun _ _ _ => trivial | (intro t ht w; cases ht; simp [upE])); (· intro w' hw' _; go_simp; with_reducible rfl); simp only [Act.put, List.setIfInBounds_toArray, List.set_cons_zero, List.set_cons_succ]))
              (refine' head_call ?cw11 ?ce11 ?cr11 ?cc11 ?ch11; (case' cw11 => rfl); (case' ce11 => (first | exact fun _ _ _ => trivial | (intro t ht w; cases ht; simp [upE]))); (case' cr11 => (intro w'; go_simp; first | exact ⟨rfl, rfl⟩ | with_reducible rfl)); (case' cc11 => (intro w' hw' _; exact refTurn v4 11 (by omega) (by omega) w')); (case' ch11 => (try simp only [Act.put, List.setIfInBounds_toArray, List.set_cons_zero, List.set_cons_succ])))
              (iterate 2 (refine' head_val ?_ ?_ ?_ ?_; rotate_left; (· rfl); (· first | exact fun _ _ _ => trivial | (intro t ht w; cases ht; simp [upE])); (· intro w' hw' _; go_simp; with_reducible rfl); simp only [Act.put, List.setIfInBounds_toArray, List.set_cons_zero, List.set_cons_succ]))
              (refine' head_call ?cw12 ?ce12 ?cr12 ?cc12 ?ch12; (case' cw12 => rfl); (case' ce12 => (first | exact fun _ _ _ => trivial | (intro t ht w; cases ht; simp [upE]))); (case' cr12 => (intro w'; go_simp; first | exact ⟨rfl, rfl⟩ | with_reducible rfl)); (case' cc12 => (intro w' hw' _; exact refTurn v4 25 (by omega) (by omega) w')); (case' ch12 => (try simp only [Act.put, List.setIfInBounds_toArray, List.set_cons_zero, List.set_cons_succ])))
              (iterate 26 (refine' head_val ?_ ?_ ?_ ?_; rotate_left; (· rfl); (· first | exact fun _ _ _ => trivial | (intro t ht w; cases ht; simp [upE])); (· intro w' hw' _; go_simp; with_reducible rfl); simp only [Act.put, List.setIfInBounds_toArray, List.set_cons_zero, List.set_cons_succ]))
              refine head_nil ?_
              intro w8 hw8 _
              refine wpList_nil ?_
              clear r5 r6 r7 r8 r9 n0 n1
              have GR8 := hid (Grow.trans GR7.out hw8)
              have r1 := fun w' (hw' : Grow w8 w') => Q1.out w' (Grow.trans GR8.out hw')
              have r2 := fun w' (hw' : Grow w8 w') => Q2.out w' (Grow.trans GR8.out hw')
              clear hw8
              generalize v7 + (rotr v4 6 ^^^ rotr v4 11 ^^^ rotr v4 25) + ((v4 &&& v5) ||| (~~~v4 &&& v6)) + kn + wn = X at *
              go_wp2
              (refine' wp_region_head 29 0 [_, _, _, _, _, _, _, _, _, _, _, _, _, _, _, _, _, _, _, _, _, _, _, _, _, _, _, _, _] rfl (by kernel_rfl) (by kernel_rfl) ?hreg13; case' hreg13 => simp only [List.take_succ_cons, List.take_zero, List.zip_cons_cons, List.zip_nil_right, List.drop_succ_cons, List.drop_zero, List.drop_nil])
              (iterate 1 (refine' head_val ?_ ?_ ?_ ?_; rotate_left; (· rfl); (· first | exact fun _ _ _ => trivial | (intro t ht w; cases ht; simp [upE])); (· intro w' hw' _; go_simp; with_reducible rfl); simp only [Act.put, List.setIfInBounds_toArray, List.set_cons_zero, List.set_cons_succ]))
              (refine' head_call ?cw14 ?ce14 ?cr14 ?cc14 ?ch14; (case' cw14 => rfl); (case' ce14 => (first | exact fun _ _ _ => trivial | (intro t ht w; cases ht; simp [upE]))); (case' cr14 => (intro w'; go_simp; first | exact ⟨rfl, rfl⟩ | with_reducible rfl)); (case' cc14 => (intro w' hw' _; exact refTurn v0 2 (by omega) (by omega) w')); (case' ch14 => (try simp only [Act.put, List.setIfInBounds_toArray, List.set_cons_zero, List.set_cons_succ])))
              (iterate 1 (refine' head_val ?_ ?_ ?_ ?_; rotate_left; (· rfl); (· first | exact fun _ _ _ => trivial | (intro t ht w; cases ht; simp [upE])); (· intro w' hw' _; go_simp; with_reducible rfl); simp only [Act.put, List.setIfInBounds_toArray, List.set_cons_zero, List.set_cons_succ]))
              (refine' head_call ?cw15 ?ce15 ?cr15 ?cc15 ?ch15; (case' cw15 => rfl); (case' ce15 => (first | exact fun _ _ _ => trivial | (intro t ht w; cases ht; simp [upE]))); (case' cr15 => (intro w'; go_simp; first | exact ⟨rfl, rfl⟩ | with_reducible rfl)); (case' cc15 => (intro w' hw' _; exact refTurn v0 13 (by omega) (by omega) w')); (case' ch15 => (try simp only [Act.put, List.setIfInBounds_toArray, List.set_cons_zero, List.set_cons_succ])))
              (iterate 2 (refine' head_val ?_ ?_ ?_ ?_; rotate_left; (· rfl); (· first | exact fun _ _ _ => trivial | (intro t ht w; cases ht; simp [upE])); (· intro w' hw' _; go_simp; with_reducible rfl); simp only [Act.put, List.setIfInBounds_toArray, List.set_cons_zero, List.set_cons_succ]))
              (refine' head_call ?cw16 ?ce16 ?cr16 ?cc16 ?ch16; (case' cw16 => rfl); (case' ce16 => (first | exact fun _ _ _ => trivial | (intro t ht w; cases ht; simp [upE]))); (case' cr16 => (intro w'; go_simp; first | exact ⟨rfl, rfl⟩ | with_reducible rfl)); (case' cc16 => (intro w' hw' _; exact refTurn v0 22 (by omega) (by omega) w')); (case' ch16 => (try simp only [Act.put, List.setIfInBounds_toArray, List.set_cons_zero, List.set_cons_succ])))
              (iterate 22 (refine' head_val ?_ ?_ ?_ ?_; rotate_left; (· rfl); (· first | exact fun _ _ _ => trivial | (intro t ht w; cases ht; simp [upE])); (· intro w' hw' _; go_simp; with_reducible rfl); simp only [Act.put, List.setIfInBounds_toArray, List.set_cons_zero, List.set_cons_succ]))
              refine head_nil ?_
              intro w9 hw9 _
              refine wpList_nil ?_
              clear r1 r2
              have GR9 := hid (Grow.trans GR8.out hw9)
              clear hw9
              have r0 := fun w' (hw' : Grow w9 w') => Q0.out w' (Grow.trans GR9.out hw')
              have r1 := fun w' (hw' : Grow w9 w') => Q1.out w' (Grow.trans GR9.out hw')
              have r2 := fun w' (hw' : Grow w9 w') => Q2.out w' (Grow.trans GR9.out hw')
              have r3 := fun w' (hw' : Grow w9 w') => Q3.out w' (Grow.trans GR9.out hw')
              have r4 := fun w' (hw' : Grow w9 w') => Q4.out w' (Grow.trans GR9.out hw')
              have r5 := fun w' (hw' : Grow w9 w') => Q5.out w' (Grow.trans GR9.out hw')
              have r6 := fun w' (hw' : Grow w9 w') => Q6.out w' (Grow.trans GR9.out hw')
              generalize (rotr v0 2 ^^^ rotr v0 13 ^^^ rotr v0 22) + ((v0 &&& v1) ||| (v0 &&& v2) ||| (v1 &&& v2)) = Y at *
              go_wp2
              (refine' wp_region_head 26 2 [_, _, _, _, _, _, _, _, _, _, _, _, _, _, _, _, _, _, _, _, _, _, _, _, _, _] rfl (by kernel_rfl) (by kernel_rfl) ?hreg17; case' hreg17 => simp only [List.take_succ_cons, List.take_zero, List.zip_cons_cons, List.zip_nil_right, List.drop_succ_cons, List.drop_zero, List.drop_nil])
              (iterate 26 (refine' head_val ?_ ?_ ?_ ?_; rotate_left; (· rfl); (· first | exact fun _ _ _ => trivial | (intro t ht w; cases ht; simp [upE])); (· intro w' hw' _; go_simp; with_reducible rfl); simp only [Act.put, List.setIfInBounds_toArray, List.set_cons_zero, List.set_cons_succ]))
              refine head_nil ?_
              intro w10 hw10 _
              have GR10 := hid (Grow.trans GR9.out hw10)
              clear r0 r1 r2 r3 r4 r5 r6 hw10
              go_wp2
              go_roundg (65 - (n + 1))
              case rel =>
                refine ⟨n + 1, w10.heap.size, 8, by omega, rfl, by go_num, rfl, ?_, hid ((hGk.out.trans GR10.out).trans (grow_alloc _ _))⟩
                rw [HS8.out, HRN.out]
                exact hid (u32At_alloc (l := [X + Y, v0, v1, v2, v3 + X, v4, v5, v6]) (heap_alloc_new _ _))
              case measure => omega
            · obtain rfl : n = 64 := by omega
              obtain ⟨wp, rfl⟩ : ∃ wp : World, wp = wr := ⟨_, rfl⟩
              have hl8 := rnds_length h (sched b 48) HH.out 64
              have HGP := hid (HG.out.trans hGk.out)
              have HPL := hid (Nat.le_trans HWL.out hGk.out.size)
              have HSA := hid (show shaAdd h b = addTo h (rnds h (sched b 48) 64) 8 from rfl)
              generalize rnds h (sched b 48) 64 = vs at *
              have HL8 := hid hl8
              clear hl8 HWS hq hn hlt hGk
              go_wp2_with fail
              go_loopg [18, 19] 9 (fun q v i wr => ∃ k : Nat, k ≤ 8 ∧ q = 9 - k ∧ i = .int .i64 k ∧ Hid (wr.ownsRow wp.heap.size 199 1 v k (u32s (addTo h vs k))) ∧ Hid (Below wp.heap.size wp wr) ∧ Hid (wp.heap.size ≤ wr.heap.size))
              case atStart => exact ⟨0, by omega, by omega, rfl, row_alloc _ _, (Below.refl _ _).alloc (Nat.le_refl _) _, hid (by simp)⟩
              case round =>
                obtain ⟨k, hk, hq, rfl, hO, hB, hL⟩ := hrel
                by_cases hlt : k < 8
                · have c1 := fun w' (hw' : Grow wr w') => (((H8.out.grow HGP.out).grow hB.out).grow hw') k (by rw [HH.out]; exact hlt)
                  have c2 := fun w' (hw' : Grow wr w') => u32At_off ((hV.out.grow hB.out).grow hw') k (by rw [HL8.out]; exact hlt)
                  have HX := hid (addTo_succ h vs k)
                  generalize h.getD k 0 = x at *
                  generalize vs.getD k 0 = y at *
                  have n0 : (0 : Int) ≤ (k : Int) := by omega
                  have n1 : (k : Int) < 8 := by omega
                  go_wp2
                  (refine' wp_region_head 11 2 [_, _, _, _, _, _, _, _, _, _, _] rfl (by kernel_rfl) (by kernel_rfl) ?hreg18; case' hreg18 => simp only [List.take_succ_cons, List.take_zero, List.zip_cons_cons, List.zip_nil_right, List.drop_succ_cons, List.drop_zero, List.drop_nil])
                  (iterate 10 (refine' head_val ?_ ?_ ?_ ?_; rotate_left; (· rfl); (· first | exact fun _ _ _ => trivial | (intro t ht w; cases ht; simp [upE])); (· intro w' hw' _; go_simp; with_reducible rfl); simp only [Act.put, List.setIfInBounds_toArray, List.set_cons_zero, List.set_cons_succ]))
                  refine head_abs (V := fun v w' => ∃ g, v = .slice (some ⟨g, 0, none⟩) 1 1 ∧ w'.cell? ⟨g, 0, none⟩ = some (.int .u32 (w32 (x + y)))) ?wa4 ?st4 ?dd4 ?hh4
                  case wa4 => rfl
                  · rintro v w1 w2 ⟨g, rfl, hc⟩ hg
                    exact ⟨g, rfl, grow_cell hc hg⟩
                  · intro w1 hw1 _
                    refine does_val (v := .slice (some ⟨w1.heap.size, 0, none⟩) 1 1) (w' := w1.alloc (.cells #[.int .u32 (w32 (x + y))] 199)) (by go_simp) ⟨grow_alloc _ _, _, rfl, ?_⟩
                    exact (cells_block (cs := [.int .u32 (w32 (x + y))]) (tl := []) (heap_alloc_new _ _) 0 _ rfl)
                  rintro v ⟨_, gz, rfl, _⟩
                  simp only [Act.put, List.setIfInBounds_toArray, List.set_cons_zero, List.set_cons_succ]
                  refine head_nil ?_
                  intro w4 hw4 hE
                  have hE81 := hE 202
                  unfold upE at hE81
                  rw [if_pos rfl] at hE81
                  obtain ⟨gz', hgz, hcz⟩ := hE81
                  obtain rfl : gz = gz' := by injection hgz with h1 h2 h3; injection h1 with h1; injection h1
                  clear hE hgz
                  have HB4 := hid (below_grow hB.out hL.out hw4)
                  have HL4 := hid (Nat.le_trans hL.out hw4.size)
                  have HO4 := hid (own_grow hO.out hw4)
                  have HCZ := hid hcz
                  clear c1 c2 n0 n1 hw4 hcz
                  go_wp2_with (at_builtin; refine app_cells (w0 := wp) (B := wp.heap.size) (.tmp 192) (.tmp 202) 172 199 (.int .u32 0) 1 4 _ k (u32s (addTo h vs k)) [.int .u32 (w32 (x + y))] ⟨gz, 0, none⟩ 1 1 rfl rfl Tryz.underlying172 infoU32 rfl (by decide) rfl rfl rfl ?g2 ?g3 HO4.out HB4.out HL4.out ?g5 ?g7 ?_)
                  case g2 =>
                    intro j u hj
                    have hj0 : j = 0 := by
                      rcases j with _ | j
                      · rfl
                      · simp at hj
                    subst hj0
                    injection hj with hj
                    subst hj
                    exact HCZ.out
                  case g3 => simp [Value.oneCell']
                  case g5 => omega
                  case g7 => omega
                  intro v' w5 hown' hb5 hs5
                  have e5 : u32s (addTo h vs k) ++ [.int .u32 (w32 (x + y))] = u32s (addTo h vs (k + 1)) := by
                    rw [HX.out, u32s_append]
                    rfl
                  rw [e5] at hown'
                  have HO5 := hid hown'
                  have HB5 := hid hb5
                  have HS5 := hid hs5
                  clear e5 hown' hb5 hs5
                  go_wp2
                  go_roundg (9 - (k + 1))
                  case rel => exact ⟨k + 1, by omega, rfl, by go_num, HO5, HB5, HS5⟩
                  case measure => omega
                · obtain rfl : k = 8 := by omega
                  go_wp2_with fail
                  refine bodyPost_ret (results_tmp rfl _ _ _) rfl ?_
                  refine ⟨_, rfl, ?_, HGP.out.trans hB.out⟩
                  rw [HSA.out]
                  exact own_base hO.out HPL.out
end Go.Proofs.YtabkaflccaklhaaGreat
end
section
namespace Go.Proofs.YtabkaflccaklhaaGreat
open Go.RowKit
open Go.Qk hiding rotr b4
set_option maxHeartbeats 1000000
set_option maxRecDepth 100000
theorem padded_eq (l : List UInt8) : padded l = l ++ padOf l.length := rfl
theorem padded_length (l : List UInt8) : (padded l).length % 64 = 0 := by
  simp [padded, be_length]
  omega
theorem padded_le (l : List UInt8) : (padded l).length ≤ l.length + 73 := by
  rw [padded_eq, List.length_append]
  have := padOf_length l.length
  omega
theorem blocks_add (h : List UInt32) (l : List UInt8) (a : Nat) : ∀ b, blocks h l (a + b) = blocks (blocks h l a) (l.drop (64 * a)) b
  | 0 => rfl
  | b + 1 => by
    show shaAdd (blocks h l (a + b)) ((l.drop (64 * (a + b))).take 64) = shaAdd (blocks (blocks h l a) (l.drop (64 * a)) b) (((l.drop (64 * a)).drop (64 * b)).take 64)
    rw [blocks_add h l a b, List.drop_drop, Nat.mul_add]
theorem blocks_front (h : List UInt32) (l m : List UInt8) : ∀ k, 64 * k ≤ l.length → blocks h (l ++ m) k = blocks h l k
  | 0, _ => rfl
  | k + 1, hk => by
    show shaAdd (blocks h (l ++ m) k) (((l ++ m).drop (64 * k)).take 64) = shaAdd (blocks h l k) ((l.drop (64 * k)).take 64)
    rw [blocks_front h l m k (by omega), List.drop_append_of_le_length (by omega), List.take_append_of_le_length (by rw [List.length_drop]; omega)]
theorem feed_feed (h : List UInt32) (l m : List UInt8) : feed (feed h l) (restOf l ++ m) = feed h (l ++ m) := by
  have hr : (restOf l ++ m) = (l ++ m).drop (64 * (l.length / 64)) := by
    rw [restOf, List.drop_append_of_le_length (by omega)]
  have hn : (l ++ m).length / 64 = l.length / 64 + (restOf l ++ m).length / 64 := by
    rw [hr, List.length_drop, List.length_append]
    omega
  unfold feed
  rw [hn, blocks_add, blocks_front h l m _ (by omega), hr]
theorem shaOf_padded (l : List UInt8) : (blocks shaH (padded l) ((padded l).length / 64)).flatMap b4 = shaOf l := by
  show (feed shaH (padded l)).flatMap b4 = (feed (feed shaH l) (restOf l ++ padOf l.length)).flatMap b4
  rw [feed_feed]
  rfl

theorem refSum (l : List UInt8) (hl : l.length ≤ 140737488355328) (w : World) :
    Calls Tryz.prog 78 #[.string (bs l)] w fun e w' => e = .returned (idV (shaOf l)) ∧ Below w.heap.size w w' := by
  have hp0 := padded_length l
  have hp1 := padded_le l
  have HSH := hid (shaOf_padded l)
  have HLL := hid hl
  have hpl : (padded l).length ≤ 140737488355401 := by omega
  clear hl hp1
  go_enter Tryz.func78, Tryz.ntmps78
  apply wp_seq_k; intro _ _; apply wp_region_lit
  refine wpList_val (v := .pointer (some ⟨w.heap.size, 0, none⟩)) (w' := w.alloc (.cells (u8s (zero8 32)).toArray 42)) rfl (by kernel_rfl) ?_
  have hg0 : (w.alloc (.cells (u8s (zero8 32)).toArray 42)).heap[w.heap.size]? = some (.cells (u8s (zero8 32)).toArray 42 (0, 0)) := heap_alloc_new _ _
  have hb0 : Grow w (w.alloc (.cells (u8s (zero8 32)).toArray 42)) := grow_alloc _ _
  generalize w.alloc (.cells (u8s (zero8 32)).toArray 42) = W at *
  have HW := hid hg0
  have HB := hid hb0
  clear hg0 hb0
  simp only [Act.put, List.setIfInBounds_toArray, List.set_cons_zero, List.set_cons_succ]
  refine wpList_nil ?_
  go_wp2_with fail
  refine (refKnown _).mono ?_
  rintro e W1 ⟨g1, g2, rfl, hH, hK, hb⟩
  have HH1 := hid hH
  have HK1 := hid hK
  have HW1 := hid (grow_block HW.out hb)
  have HB1 := hid (HB.out.trans hb)
  clear hH hK hb HW HB
  go_wp2_with fail
  refine (refPadded l HLL.out _).mono ?_
  rintro e W2 ⟨rfl, hb⟩
  have HH2 := hid (HH1.out.grow hb)
  have HK2 := hid (HK1.out.grow hb)
  have HW2 := hid (grow_block HW1.out hb)
  have HB2 := hid (HB1.out.trans hb)
  clear hb HH1 HK1 HW1 HB1
  generalize padded l = p at *
  have hps := bs_size p
  go_wp2_with fail
  go_loopg [3, 6] (p.length / 64 + 1) (fun q v i wr => ∃ k g c : Nat, 64 * k ≤ p.length ∧ q = p.length / 64 + 1 - k ∧ i = .int .i64 ((64 * k : Nat) : Int) ∧ v = .slice (some ⟨g, 0, none⟩) 8 c ∧ Hid (U32At wr ⟨g, 0, none⟩ (blocks shaH p k)) ∧ Hid (Grow W2 wr))
  case atStart => exact ⟨0, g1, 8, by omega, rfl, rfl, rfl, HH2, hid (Below.refl _ _)⟩
  case round =>
    obtain ⟨k, g, c, hk, hq, rfl, rfl, hV, hG⟩ := hrel
    clear HH2
    by_cases hlt : 64 * k < p.length
    · have hx := bs_extract p (64 * k) (64 * k + 64)
      have t1 : ((64 * k : Nat) : Int) < (p.length : Int) := by omega
      go_wp2_with fail
      refine (refOne (blocks shaH p k) (blocks_length _ _ rfl k) ⟨g, 0, none⟩ ⟨g2, 0, none⟩ c 64 ((p.drop (64 * k)).take 64) (by rw [List.length_take, List.length_drop]; omega) _ hV.out (HK2.out.grow hG.out)).mono ?_
      rintro e W3 ⟨v, rfl, hO, hb⟩
      obtain ⟨g3, c3, rfl, _, _⟩ := own_form hO (by omega)
      have HV3 : Hid (U32At W3 ⟨g3, 0, none⟩ (blocks shaH p (k + 1))) := u32At_own hO
      have HG3 := hid (hG.out.trans hb)
      clear hO hb hV hG
      go_wp2_with fail
      go_roundg (p.length / 64 + 1 - (k + 1))
      case rel => exact ⟨k + 1, g3, c3, by omega, rfl, by go_num, rfl, HV3, HG3⟩
      case measure => omega
    · have HKK := hid (show k = p.length / 64 by omega)
      have t1 : decide (((64 * k : Nat) : Int) < (p.length : Int)) = false := by simp; omega
      have t2 : ¬ ((64 * k : Nat) : Int) < (p.length : Int) := by omega
      have hbl := blocks_length shaH p rfl k
      rw [← HKK.out] at HSH
      have hfl := flat_b4 (blocks shaH p k)
      rw [hbl, HSH.out] at hfl
      have HW3 := hid (grow_block HW2.out hG.out)
      have HB3 := hid (HB2.out.trans hG.out)
      clear HW2 HB2
      go_wp2_with fail
      refine (refBytes (blocks shaH p k) hbl ⟨g, 0, none⟩ c _ (hV.out.grow (grow_alloc _ _))).mono ?_
      rintro e W4 ⟨rfl, hb⟩
      rw [HSH.out]
      have hfs := bs_size (shaOf l)
      have hgb : (wr.alloc (.cells (u8s (zero8 32)).toArray 42)).heap[wr.heap.size]? = some (.cells (u8s (zero8 32)).toArray 42 (0, 0)) := heap_alloc_new _ _
      have HGB := hid (grow_block hgb hb)
      have HW4 := hid (grow_block HW3.out ((grow_alloc _ _).trans hb))
      have HB4 := hid (HB3.out.trans ((grow_alloc _ _).trans hb))
      have HLE := hid HB3.out.size
      have HLT := hid (show w.heap.size < wr.heap.size from (Array.getElem?_eq_some_iff.1 HW3.out).1)
      obtain ⟨wo, rfl⟩ : ∃ wo : World, wo = wr := ⟨_, rfl⟩
      generalize hSF : shaOf l = F at *
      have HSF := hid hSF
      clear hSF
      clear hgb hb HW3 HB3 hV hG HK2 hbl t1 t2 HKK hk hq hlt
      go_wp2_with fail
      go_loopg [9] 33 (fun q i wr => ∃ k : Nat, k ≤ 32 ∧ q = 33 - k ∧ i = .int .i64 k ∧ Hid (wr.heap[wo.heap.size]? = some (.cells (u8s (F.take k ++ zero8 (32 - k))).toArray 42 (0, 0))) ∧ Hid (wr.heap[w.heap.size]? = some (.cells (u8s (zero8 32)).toArray 42 (0, 0))) ∧ Hid (Grow w wr))
      case atStart => exact ⟨0, by omega, rfl, rfl, HGB, HW4, HB4⟩
      case round =>
        clear HGB HW4 HB4
        obtain ⟨k, hk, hq, rfl, hA, hR, hB⟩ := hrel
        by_cases hlt : k < 32
        · have hix : ∀ w, (Instr.index 9 (.string (bs F)) (.int .i64 k)).run Tryz.prog w = .ok (.int .u8 (b8 F k)) w := fun w => by
            have := run_index_str (P := Tryz.prog) 9 (bs F) k (by omega) k rfl w Tryz.underlying9
            rw [bl_bs] at this
            exact this
          have hll : (F.take k ++ zero8 (32 - k)).length = 32 := by simp [zero8]; omega
          have c4 : wr.cell? ⟨wo.heap.size, k, none⟩ = some (.int .u8 (b8 (F.take k ++ zero8 (32 - k)) k)) := cell_u8 hA.out (grow_refl wr) k (by omega)
          have f4 : wr.frozen? ⟨wo.heap.size, k, none⟩ = false := frozen_of_row wr _ k _ _ hA.out
          have HSET := hid (show (u8s (F.take k ++ zero8 (32 - k))).toArray.setIfInBounds k (.int .u8 (b8 F k)) = (u8s (F.take (k + 1) ++ zero8 (32 - (k + 1)))).toArray by
            rw [show zero8 (32 - k) = 0 :: zero8 (32 - (k + 1)) from by rw [zero8, show 32 - k = (32 - (k + 1)) + 1 from by omega]; rfl]
            have hk2 : k < F.length := by omega
            rw [List.take_succ_eq_append_getElem hk2, List.setIfInBounds_toArray]
            have hlk : (F.take k).length = k := by rw [List.length_take]; omega
            rw [u8s_append, List.set_append_right _ _ (by rw [u8s_length, hlk]; omega), u8s_length, hlk]
            have hg : F.getD k 0 = F[k] := by simp [hk2]
            simp only [u8s, List.map_append, List.map_cons, List.map_nil, List.set_cons_zero, Nat.sub_self, List.append_assoc, List.cons_append, List.nil_append, b8, hg])
          have n0 : (0 : Int) ≤ (k : Int) := by omega
          have n1 : (k : Int) < 32 := by omega
          go_wp2
          go_roundg (33 - (k + 1))
          case rel =>
            refine ⟨k + 1, by omega, rfl, by go_num, ?_, ?_, hid (hB.out.setCell HLE.out _)⟩
            · have h2 := heap_setCell_same wr wo.heap.size k _ _ (.int .u8 (b8 F k)) hA.out
              rw [HSET.out] at h2
              exact h2
            · have := HLT.out
              exact hid ((heap_setCell_other _ _ _ _ (by simp; omega)).trans hR.out)
          case measure => omega
        · obtain rfl : k = 32 := by omega
          have hFA := hA.out
          rw [List.take_of_length_le (by omega), show zero8 (32 - 32) = [] from rfl, List.append_nil] at hFA
          have HFA := hid hFA
          have hfl32 : F.length = 32 := hfl
          clear hA hFA
          go_wp2_with (first | (refine wpList_load_agg rfl 42 (.tmp 7) rfl ⟨wo.heap.size, 0, none⟩ rfl (u8s F) _ (cells_block (tl := []) (by rw [List.append_nil]; exact HFA.out)) Tryz.underlying42 rfl (by rw [szId, u8s_length, hfl32]) ?_) | (refine store_block 42 (.tmp 2) (.tmp 41) w.heap.size 0 (u8s F) (u8s (zero8 32)) (u8s F) 42 rfl rfl rfl rfl rfl hR.out (by rw [szId, u8s_length, hfl32]) ?c1 (u8s_one _) ?c2 ?_))
          case c1 => simp [u8s_length, zero8, hfl32]
          case c2 => simp [u8s_length, hfl32, zero8]
          intro W6 hw6 _ hb6
          have HB6 := hid (hb6 _ _ hB.out (Nat.le_refl _))
          have HR6 := hid hw6
          clear hw6 hb6
          go_wp2
          refine bodyPost_ret (v := idV F) (results_cell_row rfl _ _ w.heap.size 42 _ (0, 0) _ rfl HR6.out Tryz.underlying42 rfl (by rw [szId]; simp [u8s_length, hfl32])) rfl ⟨by rw [HSF.out], HB6.out⟩
end Go.Proofs.YtabkaflccaklhaaGreat
end
