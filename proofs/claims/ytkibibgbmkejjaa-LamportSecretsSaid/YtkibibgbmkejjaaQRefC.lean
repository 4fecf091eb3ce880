import Derived.Test.YtkibibgbmkejjaaQRefB
import Derived.Test.YtkibibgbmkejjaaQShaP
set_option linter.unusedSimpArgs false
set_option linter.unusedVariables false
namespace Go.Proofs.Ytkibibgbmkejjaa
open Go.RowKit
open Go.Qk hiding rotr b4

set_option maxHeartbeats 1000000
set_option maxRecDepth 100000
/-- A text, padded. -/
def padded (l : List UInt8) : List UInt8 := l ++ (128 :: (List.replicate ((119 - l.length % 64) % 64) 0 ++ be 8 (l.length * 8)))
theorem refPadded (l : List UInt8) (hl : l.length ≤ 140737488355328) (w : World) :
    Calls Try.prog 133 #[.string (bs l)] w fun e w' => e = .returned (.string (bs (padded l))) ∧ Below w.heap.size w w' := by
  have hs := bs_size l
  have hcat : bs l ++ (⟨#[128]⟩ : ByteArray) = bs (l ++ [128]) := bs_append l [128]
  have hs1 : (⟨#[128]⟩ : ByteArray).size = 1 := rfl
  go_enter Try.func133, Try.ntmps133
  go_wp2
  clear hcat hs1
  have hs0 : (⟨#[0]⟩ : ByteArray).size = 1 := rfl
  go_loopg [3] 64 (fun q v wr => ∃ k : Nat, k ≤ (119 - l.length % 64) % 64 ∧ q = 64 - k ∧ v = .string (bs (l ++ [128] ++ List.replicate k 0)) ∧ Hid (Grow w wr))
  case atStart => exact ⟨0, by omega, rfl, by simp, Below.refl _ _⟩
  case round =>
    obtain ⟨k, hk, hq, rfl, hB⟩ := hrel
    have hz : (bs (l ++ [128] ++ List.replicate k 0)).size = l.length + 1 + k := by rw [bs_size]; simp; omega
    have hca : bs (l ++ [128] ++ List.replicate k 0) ++ (⟨#[0]⟩ : ByteArray) = bs (l ++ [128] ++ List.replicate (k + 1) 0) := by
      rw [List.replicate_succ', ← List.append_assoc]
      exact bs_append _ [0]
    by_cases hlt : k < (119 - l.length % 64) % 64
    · have t1 : (((l.length + 1 + k : Nat) : Int) % 64 != 56) = true := by rw [bne_iff_ne]; omega
      have t2 : (((l.length : Int) + 1 + (k : Int)) % 64 != 56) = true := by rw [bne_iff_ne]; omega
      have H3 := hid hca
      generalize bs (l ++ [128] ++ List.replicate k 0) = x at *
      clear hca
      go_wp2
      go_roundg (64 - (k + 1))
      case rel => exact ⟨k + 1, by omega, rfl, by rw [H3.out], hB⟩
      case measure => omega
    · have HK := hid (show k = (119 - l.length % 64) % 64 by omega)
      have t1 : (((l.length + 1 + k : Nat) : Int) % 64 != 56) = false := by simp; omega
      have t2 : (((l.length : Int) + 1 + (k : Int)) % 64 != 56) = false := by simp; omega
      have hN := refNumber8 (l.length * 8) (by omega)
      rw [show ((l.length * 8 : Nat) : Int) = (l.length : Int) * 8 by omega] at hN
      have H4 := hid (show bs (l ++ [128] ++ List.replicate k 0) ++ bs (be 8 (l.length * 8)) = bs (padded l) by rw [HK.out, bs_append]; unfold padded; congr 1; simp)
      generalize bs (l ++ [128] ++ List.replicate k 0) = x at *
      have HY := hid (show (bs (be 8 (l.length * 8))).size ≤ 8 by rw [bs_size, be_length]; omega)
      generalize bs (be 8 (l.length * 8)) = y at *
      clear hca hlt hq
      have hk64 : k < 64 := by omega
      clear hk
      have hw1 : IntKind.u64.wrap (l.length : Int) = (l.length : Int) := by simp [IntKind.wrap, IntKind.signed, IntKind.bits]; omega
      have hw2 : IntKind.u64.wrap ((l.length : Int) * 8) = (l.length : Int) * 8 := by simp [IntKind.wrap, IntKind.signed, IntKind.bits]; omega
      have hn : 0 ≤ (l.length : Int) ∧ (l.length : Int) ≤ 1000000000000000 := by omega
      clear hl
      generalize l.length = n at *
      clear t1
      go_wp2_with fail
      refine (hN _).mono ?_
      rintro e w2 ⟨rfl, hb⟩
      have HB2 := hid (hB.out.trans hb)
      have hz2 : y.size ≤ 8 := HY.out
      have hzz : x.size ≤ 1000000000000100 := by omega
      clear hb hw1 hw2 hN hs hz t2
      go_wp2
      go_ret
      exact ⟨by rw [H4.out]; rfl, HB2.out⟩

theorem u32At_alloc {w : World} {g : Nat} {l : List UInt32} {t : TypeId} (h : w.heap[g]? = some (.cells (u32s l).toArray t (0, 0))) : U32At w ⟨g, 0, none⟩ l := by
  intro i hi
  have := cells_block (cs := u32s l) (tl := []) (by rw [List.append_nil]; exact h) i _ (u32s_get l i hi)
  exact this
theorem refKnown (w : World) :
    Calls Try.prog 132 #[] w fun e w' => ∃ g1 g2, e = .returned (.tuple #[.slice (some ⟨g1, 0, none⟩) 8 8, .slice (some ⟨g2, 0, none⟩) 64 64]) ∧ U32At w' ⟨g1, 0, none⟩ shaH ∧ U32At w' ⟨g2, 0, none⟩ shaK ∧ Below w.heap.size w w' := by
  go_enter Try.func132, Try.ntmps132
  go_wp2_with fail
  go_ret2
  refine ⟨_, _, rfl, ?_, ?_, ?_⟩
  · refine u32At_alloc (t := 153) ?_
    exact heap_alloc2_old _ _ _
  · refine u32At_alloc (t := 153) ?_
    exact heap_alloc2_new _ _ _
  · exact ((Below.refl _ _).alloc (Nat.le_refl _) _).alloc (by simp) _
end Go.Proofs.Ytkibibgbmkejjaa
