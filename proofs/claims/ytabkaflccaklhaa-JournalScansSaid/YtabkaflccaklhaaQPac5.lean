/- The law PackOnce: walk. -/
import Derived.Test.YtabkaflccaklhaaQPac4
set_option linter.unusedSimpArgs false
set_option linter.unusedVariables false
namespace Go.Proofs.Ytabkaflccaklhaa
open Go.RowKit
open Go.Qk hiding rotr b4
open Pac
set_option maxHeartbeats 2000000
set_option maxRecDepth 100000
theorem encN_300 : encN 300 = [172, 2] := by
  rw [encN_big (by decide), encN_small (by decide)]
  rfl
theorem wr_new {w W : World} {g : Nat} (h1 : w.heap.size ≤ g) (h2 : g < W.heap.size) (hr : W.heap[g]? = some (wrO (.slice none 0 0))) : IsWr w.heap.size W g [] := ⟨_, hr, h1, buf_nil _ _ _, by omega⟩
theorem once_num (L : List UInt8) (h : endE L (posR 0 (numR L 0)) (errR (numR L 0)) = 0) : ∃ v k, numR L 0 = .ok v k ∧ v ≤ 4611686018427387904 ∧ encN v = L := by
  cases hR : numR L 0 with
  | short => rw [hR] at h; simp [endE, errR] at h
  | form => rw [hR] at h; simp [endE, errR] at h
  | ok v k =>
    obtain ⟨u, j, h1, h2, h3, h4, h5, h6, h7⟩ := rdN_once _ _ _ _ _ hR
    rw [hR] at h
    simp only [endE, errR, posR, Nat.zero_add] at h
    rw [List.drop_zero] at h4 h5
    have hk : ¬ k < L.length := fun hk => by rw [if_pos ⟨trivial, hk⟩] at h; cases h
    refine ⟨v, k, rfl, h7, ?_⟩
    have : v = u := by omega
    rw [this, h5, List.take_of_length_le (by omega)]
theorem once_text (L : List UInt8) (h : endE L (textR L 0 1000).2.1 (textR L 0 1000).2.2 = 0) : encN (textR L 0 1000).1.length ++ (textR L 0 1000).1 = L := by
  unfold textR at h ⊢
  cases hR : numR L 0 with
  | short => rw [hR] at h; simp [endE] at h
  | form => rw [hR] at h; simp [endE] at h
  | ok v k =>
    obtain ⟨u, j, h1, h2, h3, h4, h5, h6, h7⟩ := rdN_once _ _ _ _ _ hR
    rw [hR] at h
    rw [List.drop_zero] at h4 h5
    have e : v = u := by omega
    have ek : k = j := by omega
    simp only at h ⊢
    split at h
    · simp [endE] at h
    · rename_i n1
      rw [if_neg n1]
      split at h
      · rename_i n2
        rw [if_pos n2]
        simp only [endE, Nat.zero_add] at h ⊢ n2
        have hk : ¬ k + v < L.length := fun hk => by rw [if_pos ⟨trivial, hk⟩] at h; cases h
        have hl : ((L.drop k).take v).length = v := by simp; omega
        rw [hl, List.take_of_length_le (by simp; omega), e, h5, ek, List.take_append_drop]
      · simp [endE] at h
theorem textR_len (L : List UInt8) (p most : Nat) : (textR L p most).1.length ≤ L.length := by
  unfold textR
  split
  · split
    · simp
    · split
      · simp; omega
      · simp
  · simp
  · simp
theorem wr_keep {B : Nat} {w w1 : World} {g : Nat} {o : Obj} (h : w.heap[g]? = some o) (hb : Below B w w1) (hg : g < B) : w1.heap[g]? = some o := by rw [hb.block g hg]; exact h
end Go.Proofs.Ytabkaflccaklhaa
