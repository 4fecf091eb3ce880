import Derived.Test.YtkibibgbmkejjaaQShaB
set_option linter.unusedSimpArgs false
set_option linter.unusedVariables false
namespace Go.Proofs.Ytkibibgbmkejjaa
open Go.RowKit Go.Qk
attribute [local go_sem ↓ high] add_w32 and_w32 or_w32 xor_w32 shr_w32 shl_w32 shr3_w32 shr10_w32 shr8_w32 shr16_w32 shr24_w32 shl8_w32
attribute [local go_sem high] not_w32 max_xor_w32

set_option maxHeartbeats 400000
set_option maxRecDepth 100000
def b4 (x : UInt32) : List UInt8 := [UInt8.ofNat (x >>> 24).toNat, UInt8.ofNat (x >>> 16).toNat, UInt8.ofNat (x >>> 8).toNat, UInt8.ofNat x.toNat]
theorem w32_mod (x : UInt32) : w32 x % 256 = ((UInt8.ofNat x.toNat).toNat : Int) := by
  simp [w32, UInt8.toNat_ofNat]
theorem b4_cells (x : UInt32) : [Value.int .u8 (w32 (x >>> 24) % 256), .int .u8 (w32 (x >>> 16) % 256), .int .u8 (w32 (x >>> 8) % 256), .int .u8 (w32 x % 256)] = u8s (b4 x) := by
  simp [w32_mod, u8s, b4]
theorem b4_length (x : UInt32) : (b4 x).length = 4 := rfl

def outB (l : List UInt32) (k : Nat) : List UInt8 := (l.take k).flatMap b4
theorem wordBytes8 (l : List UInt32) (hl : l.length = 8) (ad : Addr) (c : Nat) (w : World) (hc : ∀ i, i < 8 → w.cell? (ad.add i) = some (.int .u32 (w32 (l.getD i 0)))) :
    Calls Try.prog 156 #[.slice (some ad) 8 c] w fun e w' => e = .returned (.string (bs (l.flatMap b4))) ∧ Below w.heap.size w w' := by
  have hmk : ∀ w, (Instr.makeSlice 112 (.int .i64 0) (.int .i64 32)).run Try.prog w = .ok (.slice (some ⟨w.heap.size, 0, none⟩) 0 32) (w.alloc (.cells (Array.replicate 32 (.int .u8 0)) 5)) := fun _ => by kernel_rfl
  have HC := hid hc
  clear hc
  go_enter Try.func156, Try.ntmps156
  generalize hz : Array.replicate 32 (Value.int .u8 0) = Z at *
  have HZ := hid hz
  clear hz
  go_wp2
  go_loopg [3, 12] 9 (fun g v i wr => ∃ k : Nat, k ≤ 8 ∧ g = 8 - k + 1 ∧ i = .int .i64 k ∧ Hid (Buf 5 w.heap.size wr v (outB l k)) ∧ Hid (Below w.heap.size w wr) ∧ Hid (w.heap.size ≤ wr.heap.size))
  case atStart =>
    refine ⟨0, by omega, by omega, rfl, ?_, (Below.refl _ _).alloc (Nat.le_refl _) _, hid (by simp)⟩
    exact World.ownsRow_made _ Z 32 (Nat.le_refl _) (by decide) (by rw [← HZ.out]; simp)
  case round =>
    obtain ⟨k, hk, hg, rfl, hO, hB, hL⟩ := hrel
    clear hmk
    by_cases hlt : k < 8
    · have k0 : (0 : Int) ≤ (k : Int) := by omega
      have hc' : wr.cell? (ad.add k) = some (.int .u32 (w32 (l.getD k 0))) := (hB.out.cell (block_lt_of_cell (HC.out k hlt))).trans (HC.out k hlt)
      have ht : outB l (k + 1) = outB l k ++ b4 (l.getD k 0) := by
        unfold outB
        rw [List.take_succ_eq_append_getElem (by omega), List.flatMap_append]
        simp [show k < l.length by omega]
      have hlen : (outB l k).length ≤ 32 := by
        have : ∀ m : List UInt32, (m.flatMap b4).length = 4 * m.length := by
          intro m
          induction m with
          | nil => rfl
          | cons a m ih => rw [List.flatMap_cons, List.length_append, ih, b4_length, List.length_cons]; omega
        unfold outB
        rw [this, List.length_take]
        omega
      have HT := hid ht
      have HLN := hid hlen
      clear ht hlen
      generalize l.getD k 0 = x at *
      have w0 := w32_lo x
      have w1 := w32_lo (x >>> 24)
      have w2 := w32_lo (x >>> 16)
      have w3 := w32_lo (x >>> 8)
      go_wp2_with (at_builtin; refine app_cells (w0 := w) (B := w.heap.size) (.tmp 16) (.tmp 28) 112 5 (.int .u8 0) 1 1 _ (outB l k).length (u8s (outB l k)) [.int .u8 (w32 (x >>> 24) % 256), .int .u8 (w32 (x >>> 16) % 256), .int .u8 (w32 (x >>> 8) % 256), .int .u8 (w32 x % 256)] ⟨wr.heap.size, 0, none⟩ 4 4 rfl rfl Try.underlying112 infoU8 rfl (by decide) rfl rfl rfl ?h2 ?h3 ?h1 ?h4 ?h6 ?h5 ?h7 ?_)
      case h2 => exact fun j u h => cells_new wr _ _ j u h
      case h3 => intro u hu; rw [b4_cells] at hu; exact u8s_one _ u hu
      case h1 => exact World.ownsRow.alloc hO.out _
      case h4 => exact hB.out.alloc hL.out _
      case h6 => simp; exact Nat.le_succ_of_le hL.out
      case h5 => have := HLN.out; omega
      case h7 => have := HLN.out; omega
      intro v' w5 hown hb5 hs5
      rw [b4_cells, ← u8s_append, ← HT.out] at hown
      have hown' : Buf 5 w.heap.size w5 v' (outB l (k + 1)) := by
        unfold Buf
        have e : (outB l (k + 1)).length = (outB l k).length + 4 := by rw [HT.out, List.length_append, b4_length]
        rw [e]
        exact hown
      have HO5 := hid hown'
      have HB5 := hid hb5
      have HS5 := hid hs5
      clear hown hown' hb5 hs5
      go_wp2
      go_roundg (8 - (k + 1) + 1)
      case rel => exact ⟨k + 1, by omega, rfl, by go_num, HO5, HB5, HS5⟩
      case measure => omega
    · obtain rfl : k = 8 := by omega
      have hcv := buf_str (P := Try.prog) 112 5 9 Try.underlying112 Try.underlying5 Try.underlying9 _ _ hO.out
      unfold outB at hcv
      rw [List.take_of_length_le (by omega)] at hcv
      go_wp2
      go_ret
      exact ⟨rfl, hB.out⟩
end Go.Proofs.Ytkibibgbmkejjaa
