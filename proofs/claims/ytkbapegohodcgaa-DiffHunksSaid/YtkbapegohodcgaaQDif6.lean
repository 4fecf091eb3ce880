/- diff.Common: contract. -/
import Derived.Test.YtkbapegohodcgaaQDif5
set_option linter.unusedSimpArgs false
set_option linter.unusedVariables false
namespace Go.Proofs.Ytkbapegohodcgaa
open Go.RowKit
open Go.Qk hiding rotr b4
set_option maxHeartbeats 1000000
set_option maxRecDepth 100000
theorem linesB_len {xs : List ByteArray} (h : linesB xs = true) : xs.length ≤ 1000 := by
  unfold linesB at h
  simp only [Bool.and_eq_true, decide_eq_true_eq] at h
  exact h.2
theorem diffCommon_no (A B : Option Addr) (n m c d : Nat) (xs ys : List ByteArray) (w : World) (hx : StrRow w A xs) (hy : StrRow w B ys) (hn : xs.length = n) (hm : ys.length = m) (hsa : ∀ s ∈ xs, s.size ≤ 9223372036854775807) (hsb : ∀ s ∈ ys, s.size ≤ 9223372036854775807) (hl : (linesB xs && linesB ys) = false) :
    Calls Try.prog 52 #[.slice A n c, .slice B m d] w fun e w' => e = .returned (.tuple #[.int .i64 0, .int .i64 3]) ∧ Below w.heap.size w w' := by
  have HC := hid (diffRight A B n m c d xs ys w hx hy hn hm hsa hsb)
  have HL := hid hl
  clear hx hy hn hm hsa hsb hl
  go_enter Try.func52, Try.ntmps52
  have HB := hid (grow_refl w)
  go_wp2_with fail
  refine HC.out.mono ?_
  rintro _ w1 ⟨rfl, hb⟩
  have HB1 := hid hb
  clear hb
  rw [HL.out]
  go_wp2_with fail
  go_ret2
  exact ⟨rfl, HB1.out⟩
theorem diffCommon (A B : Option Addr) (n m c d : Nat) (xs ys : List ByteArray) (w : World) (hx : StrRow w A xs) (hy : StrRow w B ys) (hn : xs.length = n) (hm : ys.length = m) (hsa : ∀ s ∈ xs, s.size ≤ 9223372036854775807) (hsb : ∀ s ∈ ys, s.size ≤ 9223372036854775807) (hl : (linesB xs && linesB ys) = true) :
    Calls Try.prog 52 #[.slice A n c, .slice B m d] w fun e w' => e = .returned (.tuple #[.int .i64 (Dif.lcs xs ys : Int), .int .i64 0]) ∧ Below w.heap.size w w' := by
  have HC := hid (diffRight A B n m c d xs ys w hx hy hn hm hsa hsb)
  have HL := hid hl
  have hl2 : linesB xs = true ∧ linesB ys = true := by simpa using hl
  have h1 : n ≤ 1000 := by have := linesB_len hl2.1; omega
  have h2 : m ≤ 1000 := by have := linesB_len hl2.2; omega
  have HD := hid (fun w1 (h : Grow w w1) => tabMake A B n m c d xs ys w1 (hx.grow h) (hy.grow h) hn hm h1 h2)
  clear hx hy hn hm hsa hsb hl hl2
  go_enter Try.func52, Try.ntmps52
  have HB := hid (grow_refl w)
  go_wp2_with fail
  refine HC.out.mono ?_
  rintro _ w1 ⟨rfl, hb⟩
  have HB1 := hid hb
  clear hb
  rw [HL.out]
  go_wp2_with fail
  refine (HD.out _ HB1.out).mono ?_
  rintro _ w2 ⟨o, r, rfl, ht, _, hb⟩
  have hc1 : w2.cell? ⟨o, 0, none⟩ = some (.slice (some ⟨r 0, 0, none⟩) (m + 1) (m + 1)) := ht.cellRow (by omega)
  have hc2 : w2.cell? ⟨r 0, 0, none⟩ = some (.int .i64 (Dif.kAt xs ys 0 0 : Int)) := ht.cellVal (by omega) (by omega)
  have HB2 := hid (Grow.trans HB1.out hb)
  clear hb ht
  have q1 : (0 : Int) < (n : Int) + 1 := by omega
  have q2 : (0 : Int) < (m : Int) + 1 := by omega
  rw [Dif.kAt_zero] at hc2
  generalize hv : Dif.lcs xs ys = v at hc2
  go_wp2_with fail
  go_ret2
  exact ⟨by rw [hv]; rfl, HB2.out⟩
theorem infoHunk : (Try.prog.info? 77).map (fun i => (i.zero, i.size, i.bytes)) = some (some (.agg #[.int .i64 0, .slice none 0 0, .slice none 0 0]), 3, 56) := by kernel_rfl
end Go.Proofs.Ytkbapegohodcgaa
