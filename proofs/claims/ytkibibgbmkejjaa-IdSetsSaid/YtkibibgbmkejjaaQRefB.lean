import Derived.Test.YtkibibgbmkejjaaQRefA
import Derived.Test.YtkibibgbmkejjaaQShaC
set_option linter.unusedSimpArgs false
set_option linter.unusedVariables false
namespace Go.Proofs.Ytkibibgbmkejjaa
open Go.RowKit Go.Qk

set_option maxHeartbeats 1000000
set_option maxRecDepth 100000
/-- A row of words that is read. -/
def U32At (w : World) (ad : Addr) (l : List UInt32) : Prop := ∀ i, i < l.length → w.cell? (ad.add i) = some (.int .u32 (w32 (l.getD i 0)))
theorem U32At.grow {w w' : World} {ad : Addr} {l : List UInt32} (h : U32At w ad l) (hg : Grow w w') : U32At w' ad l := fun i hi => grow_cell (h i hi) hg
theorem u32At_own {w : World} {B : Nat} {e : TypeId} {g n cap : Nat} {l : List UInt32} (h : w.ownsRow B e 1 (.slice (some ⟨g, 0, none⟩) n cap) n (u32s l)) : U32At w ⟨g, 0, none⟩ l := fun i hi => World.ownsRow.cells h (g := g) rfl i _ (u32s_get l i hi)

theorem u8q (x : UInt32) : [Value.int .u8 (w32 x / 16777216 % 256), .int .u8 (w32 x / 65536 % 256), .int .u8 (w32 x / 256 % 256), .int .u8 (w32 x % 256)] = u8s (b4 x) := by
  have h := x.toNat_lt
  simp only [u8s, b4, List.map_cons, List.map_nil, w32, UInt32.toNat_shiftRight, UInt8.toNat_ofNat]
  simp [Nat.shiftRight_eq_div_pow]

theorem refBytes (l : List UInt32) (hl : l.length = 8) (ad : Addr) (c : Nat) (w : World) (hc : U32At w ad l) :
    Calls Try.prog 135 #[.slice (some ad) 8 c] w fun e w' => e = .returned (.string (bs (l.flatMap b4))) ∧ Below w.heap.size w w' := by
  have HC := hid hc
  clear hc
  go_enter Try.func135, Try.ntmps135
  go_wp2
  go_loopg [3, 4] 9 (fun g v i wr => ∃ k : Nat, k ≤ 8 ∧ g = 8 - k + 1 ∧ i = .int .i64 k ∧ Hid (Buf 5 w.heap.size wr v (outB l k)) ∧ Hid (Below w.heap.size w wr) ∧ Hid (w.heap.size ≤ wr.heap.size))
  case atStart =>
    refine ⟨0, by omega, by omega, rfl, ?_, (Below.refl _ _).alloc (Nat.le_refl _) _, hid (by simp)⟩
    exact buf_alloc w _ [] 0 rfl (by decide)
  case round =>
    obtain ⟨k, hk, hg, rfl, hO, hB, hL⟩ := hrel
    by_cases hlt : k < 8
    · have k0 : (0 : Int) ≤ (k : Int) := by omega
      have hc' : wr.cell? (ad.add k) = some (.int .u32 (w32 (l.getD k 0))) := (hB.out.cell (block_lt_of_cell (HC.out k (by omega)))).trans (HC.out k (by omega))
      have ht : outB l (k + 1) = outB l k ++ b4 (l.getD k 0) := by
        unfold outB
        rw [List.take_succ_eq_append_getElem (by omega), List.flatMap_append]
        simp [show k < l.length by omega]
      have hlen : (outB l k).length ≤ 32 := by
        unfold outB
        have : ∀ m : List UInt32, (m.flatMap b4).length = 4 * m.length := by
          intro m
          induction m with
          | nil => rfl
          | cons a m ih => rw [List.flatMap_cons, List.length_append, ih, b4_length, List.length_cons]; omega
        rw [this, List.length_take]
        omega
      have HT := hid ht
      have HLN := hid hlen
      clear ht hlen
      generalize l.getD k 0 = x at *
      have w0 := w32_lo x
      go_wp2_with (at_builtin; refine app_cells (w0 := w) (B := w.heap.size) (.tmp 17) (.tmp 32) 112 5 (.int .u8 0) 1 1 _ (outB l k).length (u8s (outB l k)) [.int .u8 (w32 x / 16777216 % 256), .int .u8 (w32 x / 65536 % 256), .int .u8 (w32 x / 256 % 256), .int .u8 (w32 x % 256)] ⟨wr.heap.size, 0, none⟩ 4 4 rfl rfl Try.underlying112 infoU8 rfl (by decide) rfl rfl rfl ?h2 ?h3 ?h1 ?h4 ?h6 ?h5 ?h7 ?_)
      case h2 => exact fun j u h => cells_new wr _ _ j u h
      case h3 => intro u hu; rw [u8q] at hu; exact u8s_one _ u hu
      case h1 => exact World.ownsRow.alloc hO.out _
      case h4 => exact hB.out.alloc hL.out _
      case h6 => simp; exact Nat.le_succ_of_le hL.out
      case h5 => have := HLN.out; omega
      case h7 => have := HLN.out; omega
      intro v' w5 hown hb5 hs5
      rw [u8q, ← u8s_append, ← HT.out] at hown
      have hown' : Buf 5 w.heap.size w5 v' (outB l (k + 1)) := by
        unfold Buf
        have e : (outB l (k + 1)).length = (outB l k).length + 4 := by rw [HT.out, List.length_append, b4_length]
        rw [e]
        exact hown
      have HO5 := hid hown'
      have HB5 := hid hb5
      have HS5 := hid hs5
      clear hown hown' hb5 hs5
      go_wp2
      go_roundg (8 - (k + 1) + 1)
      case rel => exact ⟨k + 1, by omega, rfl, by go_num, HO5, HB5, HS5⟩
      case measure => omega
    · obtain rfl : k = 8 := by omega
      have hcv := buf_str (P := Try.prog) 112 5 9 Try.underlying112 Try.underlying5 Try.underlying9 _ _ hO.out
      unfold outB at hcv
      rw [List.take_of_length_le (by omega)] at hcv
      go_wp2
      go_ret
      exact ⟨rfl, hB.out⟩
end Go.Proofs.Ytkibibgbmkejjaa
