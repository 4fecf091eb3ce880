set_option linter.unusedSimpArgs false
set_option linter.unusedVariables false
/- Plain: numbers as groups of 7 bits (encN), read back (rdN). -/
set_option linter.unusedVariables false
namespace Go.Proofs.Ytabkaflccaklhaa.Pac
def encN (v : Nat) : List UInt8 := if h : v < 128 then [UInt8.ofNat v] else UInt8.ofNat (v % 128 + 128) :: encN (v / 128)
termination_by v
theorem encN_small {v : Nat} (h : v < 128) : encN v = [UInt8.ofNat v] := by rw [encN, dif_pos h]
theorem encN_big {v : Nat} (h : ¬ v < 128) : encN v = UInt8.ofNat (v % 128 + 128) :: encN (v / 128) := by rw [encN, dif_neg h]
theorem encN_pos (v : Nat) : 0 < (encN v).length := by
  by_cases h : v < 128
  · rw [encN_small h]; simp
  · rw [encN_big h]; simp
theorem encN_len : ∀ (k v : Nat), v < 128 ^ (k + 1) → (encN v).length ≤ k + 1
  | 0, v, h => by rw [encN_small (by simpa using h)]; simp
  | k + 1, v, h => by
    by_cases h' : v < 128
    · rw [encN_small h']; simp
    · rw [encN_big h', List.length_cons]
      have := encN_len k (v / 128) (by rw [Nat.div_lt_iff_lt_mul (by decide)]; rw [Nat.pow_succ] at h; omega)
      omega
inductive NumR where
  | ok (v k : Nat)
  | short
  | form
def rdN : Nat → Nat → List UInt8 → NumR
  | _, _, [] => .short
  | n, v, b :: l =>
    if n + 1 = 9 ∧ 64 < b.toNat then .form
    else if 128 ≤ b.toNat then rdN (n + 1) (v + b.toNat % 128 * 2 ^ (7 * n)) l
    else if (1 < n + 1 ∧ b.toNat = 0) ∨ 4611686018427387904 < v + b.toNat % 128 * 2 ^ (7 * n) then .form
    else .ok (v + b.toNat % 128 * 2 ^ (7 * n)) (n + 1)
theorem of_toNat (b : UInt8) : UInt8.ofNat b.toNat = b := by simp
theorem pow7 (n : Nat) : 2 ^ (7 * (n + 1)) = 128 * 2 ^ (7 * n) := by rw [show 7 * (n + 1) = 7 + 7 * n by omega, Nat.pow_add]
theorem rdN_once : ∀ (l : List UInt8) (n v v' k : Nat), rdN n v l = .ok v' k → ∃ u j, v' = v + 2 ^ (7 * n) * u ∧ k = n + j ∧ 1 ≤ j ∧ j ≤ l.length ∧ encN u = l.take j ∧ (1 ≤ n → 1 ≤ u) ∧ v' ≤ 4611686018427387904
  | [], n, v, v', k, h => by simp [rdN] at h
  | b :: l, n, v, v', k, h => by
    have hb := b.toNat_lt
    rw [rdN] at h
    by_cases c1 : n + 1 = 9 ∧ 64 < b.toNat
    · rw [if_pos c1] at h; cases h
    rw [if_neg c1] at h
    by_cases c2 : 128 ≤ b.toNat
    · rw [if_pos c2] at h
      obtain ⟨u, j, h1, h2, h3, h4, h5, h6, h7⟩ := rdN_once l _ _ _ _ h
      refine ⟨b.toNat % 128 + 128 * u, j + 1, ?_, by omega, by omega, by simp; omega, ?_, ?_, h7⟩
      · rw [h1, pow7, Nat.mul_add, ← Nat.mul_assoc, Nat.mul_comm (b.toNat % 128), Nat.mul_comm (2 ^ (7 * n)) 128, Nat.add_assoc]
      · have hu := h6 (by omega)
        rw [encN_big (by omega), List.take_succ_cons, ← h5]
        rw [show (b.toNat % 128 + 128 * u) % 128 + 128 = b.toNat by omega, show (b.toNat % 128 + 128 * u) / 128 = u by omega, of_toNat]
      · intro _; have := h6 (by omega); omega
    · rw [if_neg c2] at h
      by_cases c3 : (1 < n + 1 ∧ b.toNat = 0) ∨ 4611686018427387904 < v + b.toNat % 128 * 2 ^ (7 * n)
      · rw [if_pos c3] at h; cases h
      rw [if_neg c3] at h
      cases h
      have e : b.toNat % 128 = b.toNat := by omega
      refine ⟨b.toNat, 1, ?_, rfl, Nat.le_refl _, by simp, ?_, ?_, ?_⟩
      · rw [e, Nat.mul_comm]
      · rw [encN_small (by omega), of_toNat]; simp
      · intro hn
        have : ¬ (1 < n + 1 ∧ b.toNat = 0) := fun x => c3 (.inl x)
        omega
      · have : ¬ 4611686018427387904 < v + b.toNat % 128 * 2 ^ (7 * n) := fun x => c3 (.inr x)
        omega
theorem rdN_enc : ∀ (u n v : Nat) (rest : List UInt8), n ≤ 8 → (1 ≤ n → 1 ≤ u) → v + 2 ^ (7 * n) * u ≤ 4611686018427387904 → rdN n v (encN u ++ rest) = .ok (v + 2 ^ (7 * n) * u) (n + (encN u).length) := by
  intro u
  induction u using Nat.strongRecOn with
  | _ u ih =>
    intro n v rest hn h1 h2
    by_cases hu : u < 128
    · rw [encN_small hu]
      have e : (UInt8.ofNat u).toNat = u := by simp; omega
      have c1 : ¬ (n + 1 = 9 ∧ 64 < u) := by
        rintro ⟨c, d⟩
        obtain rfl : n = 8 := by omega
        have : 2 ^ (7 * 8) * 65 ≤ 2 ^ (7 * 8) * u := Nat.mul_le_mul_left _ d
        have e65 : 2 ^ (7 * 8) * 65 = 4683743612465315840 := by decide
        omega
      show rdN n v (UInt8.ofNat u :: ([] ++ rest)) = _
      rw [rdN, e, if_neg c1, if_neg (by omega), if_neg, show u % 128 = u by omega, Nat.mul_comm u]
      · rfl
      · rw [show u % 128 = u by omega, Nat.mul_comm u]
        omega
    · rw [encN_big hu]
      have e : (UInt8.ofNat (u % 128 + 128)).toNat = u % 128 + 128 := by simp; omega
      have hn8 : n ≤ 7 := by
        rcases Nat.lt_or_ge 7 n with h | h
        · obtain rfl : n = 8 := by omega
          have : 2 ^ (7 * 8) * 128 ≤ 2 ^ (7 * 8) * u := Nat.mul_le_mul_left _ (by omega)
          have e65 : 2 ^ (7 * 8) * 128 = 9223372036854775808 := by decide
          omega
        · exact h
      show rdN n v (UInt8.ofNat (u % 128 + 128) :: (encN (u / 128) ++ rest)) = _
      rw [rdN, e, if_neg (by omega), if_pos (by omega)]
      have e2 : v + (u % 128 + 128) % 128 * 2 ^ (7 * n) + 2 ^ (7 * (n + 1)) * (u / 128) = v + 2 ^ (7 * n) * u := by
        rw [pow7, show (u % 128 + 128) % 128 = u % 128 by omega, Nat.add_assoc, Nat.mul_comm 128, Nat.mul_assoc, Nat.mul_comm (u % 128), ← Nat.mul_add, show u % 128 + 128 * (u / 128) = u by omega]
      rw [ih (u / 128) (by omega) (n + 1) _ rest (by omega) (by omega) (by rw [e2]; exact h2), e2]
      simp only [List.length_cons]
      congr 1; omega
end Go.Proofs.Ytabkaflccaklhaa.Pac
