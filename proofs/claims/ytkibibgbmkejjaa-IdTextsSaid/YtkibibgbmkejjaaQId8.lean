import Derived.Test.YtkibibgbmkejjaaQId7
set_option linter.unusedSimpArgs false
set_option linter.unusedVariables false
namespace Go.Proofs.Ytkibibgbmkejjaa
open Go.RowKit
open Go.Qk
set_option maxHeartbeats 1000000
set_option maxRecDepth 100000
/-- A bit of bytes. -/
def bitI (l : List UInt8) (n : Nat) : Int := (((l.getD (n / 8) 0).toNat / 2 ^ (7 - n % 8) % 2 : Nat) : Int)
theorem refBit (l : List UInt8) (n : Nat) (hl : l.length = 32) (hn : n < 256) (w : World) :
    Calls Try.prog 29 #[.string (bs l), .int .i64 n] w fun e w' => e = .returned (.int .i64 (bitI l n)) ∧ Below w.heap.size w w' := by
  have hs := bs_size l
  have hix : ∀ w, (Instr.index 9 (.string (bs l)) (.int .i64 ((n : Int) / 8))).run Try.prog w = .ok (.int .u8 ((l.getD (n / 8) 0).toNat : Int)) w := fun w => by
    have := run_index_str (P := Try.prog) 9 (bs l) (n / 8) (by omega) ((n : Int) / 8) (by omega) w Try.underlying9
    rw [bl_bs] at this
    exact this
  have HB := hid (show bitI l n = (((l.getD (n / 8) 0).toNat / 2 ^ (7 - n % 8) % 2 : Nat) : Int) from rfl)
  have hx := (l.getD (n / 8) 0).toNat_lt
  generalize (l.getD (n / 8) 0).toNat = x at *
  have hd : (n : Int).tdiv 8 = (n : Int) / 8 := Int.tdiv_eq_ediv_of_nonneg (by omega)
  have hm : (n : Int).tmod 8 = (n : Int) % 8 := Int.tmod_eq_emod_of_nonneg (by omega)
  go_enter Try.func29, Try.ntmps29
  go_wp2
  go_loopg [5, 6] (8 - n % 8) (fun q v i wr => ∃ k : Nat, n % 8 + k ≤ 7 ∧ q = 8 - (n % 8 + k) ∧ i = .int .i64 ((n % 8 + k : Nat) : Int) ∧ v = .int .i64 ((x / 2 ^ k : Nat) : Int) ∧ Hid (Grow w wr))
  case atStart => exact ⟨0, by omega, by omega, by simp, by simp, hid (Below.refl _ _)⟩
  case round =>
    obtain ⟨k, hk, hq, rfl, rfl, hB⟩ := hrel
    by_cases hlt : n % 8 + k < 7
    · have hxk : x / 2 ^ k < 256 := Nat.lt_of_le_of_lt (Nat.div_le_self _ _) hx
      have h2 : x / 2 ^ (k + 1) = x / 2 ^ k / 2 := by rw [Nat.pow_succ, ← Nat.div_div_eq_div_mul]
      have H2 := hid h2
      clear h2
      generalize x / 2 ^ k = y at *
      have t1 : ((n % 8 + k : Nat) : Int) < 7 := by omega
      generalize hmm : n % 8 + k = m at *
      have HM := hid hmm
      clear hmm
      go_wp2
      go_roundg (8 - (m + 1))
      case rel =>
        refine ⟨k + 1, by have := HM.out; omega, by have := HM.out; omega, ?_, ?_, hB⟩
        · rw [show ((n % 8 + (k + 1) : Nat) : Int) = (m : Int) + 1 by have := HM.out; omega]
        · rw [H2.out]; go_num
      case measure => omega
    · have HK := hid (show k = 7 - n % 8 by omega)
      have t1 : ¬ ((n % 8 + k : Nat) : Int) < 7 := by omega
      have hxk : x / 2 ^ k < 256 := Nat.lt_of_le_of_lt (Nat.div_le_self _ _) hx
      have H2 := hid (show bitI l n = ((x / 2 ^ k % 2 : Nat) : Int) by rw [HB.out, HK.out])
      generalize n % 8 + k = m at *
      generalize x / 2 ^ k = y at *
      go_wp2
      go_ret
      exact ⟨by rw [H2.out]; rfl, hB.out⟩
end Go.Proofs.Ytkibibgbmkejjaa
