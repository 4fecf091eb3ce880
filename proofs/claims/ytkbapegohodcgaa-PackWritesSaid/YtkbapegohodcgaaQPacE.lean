/- The law PackWrites: all inputs. -/
import Derived.Test.YtkbapegohodcgaaQPacB
import Derived.Test.YtkbapegohodcgaaQPacC
import Derived.Test.YtkbapegohodcgaaQPacD
set_option linter.unusedSimpArgs false
set_option linter.unusedVariables false
namespace Go.Proofs.Ytkbapegohodcgaa
open Go.RowKit
open Go.Qk hiding rotr b4
open Pac
set_option maxHeartbeats 4000000
theorem u8_lo {a : Int} (h : (Lit.int .u8 a).wf = true) : 0 ≤ a := by
  simp [Lit.wf] at h
  have : IntKind.u8.min = 0 := rfl
  omega
theorem u8_hi {a : Int} (h : (Lit.int .u8 a).wf = true) : a ≤ 255 := by
  simp [Lit.wf] at h
  have : IntKind.u8.max = 255 := rfl
  omega
theorem packWritesB (b : Int) (hb0 : 0 ≤ b) (hb1 : b ≤ 255) (v : Int) (s : ByteArray) (hs : s.size ≤ 140737488351232) (a : List UInt8) (ha : a.length = 32) (t : Bool) (A C : Option Addr) (n c m d : Nat) (xs : List (List UInt8)) (ms : List ByteArray) (w : World) (hx : IdRow w A xs) (hn : xs.length = n) (h32 : ∀ s ∈ xs, s.length = 32) (hy : StrRow w C ms) (hm : ms.length = m) (hsa : ∀ s ∈ ms, s.size ≤ 9223372036854775807) :
    Calls Try.prog 5 #[.int .u8 b, .int .i64 v, .string s, idV a, .bool t, .slice A n c, .slice C m d] w fun e w' => e = .returned (.bool true) ∧ Below w.heap.size w w' := by
  obtain ⟨k, rfl⟩ : ∃ k : UInt8, b = (k.toNat : Int) := ⟨UInt8.ofNat b.toNat, by
    rw [UInt8.toNat_ofNat']
    omega⟩
  have hl : (bl s).length = s.size := bl_length s
  rw [← bs_bl s]
  have hn9 := hx.1
  have hm9 := hy.1
  by_cases hlong : 300 < (bl s).length ∨ 20 < n ∨ 20 < m
  · exact packWrites_long _ v (bl s) (by omega) a ha t A C n c m d xs ms w (by omega) (by omega) hlong
  · by_cases h0 : v < 0
    · exact packWrites_neg k v h0 (bl s) (by omega) a ha t A C n c m d xs ms w hx hn h32 hy hm hsa (by omega) (by omega)
    · by_cases h1 : 4611686018427387904 < v
      · exact packWrites_big k v h1 (bl s) (by omega) a ha t A C n c m d xs ms w hx hn h32 hy hm hsa (by omega) (by omega)
      · obtain ⟨u, rfl⟩ : ∃ u : Nat, v = (u : Int) := ⟨v.toNat, by omega⟩
        exact packWrites_ok k u (by omega) (bl s) (by omega) a ha t A C n c m d xs ms w hx hn h32 hy hm hsa (by omega) (by omega)
end Go.Proofs.Ytkbapegohodcgaa
