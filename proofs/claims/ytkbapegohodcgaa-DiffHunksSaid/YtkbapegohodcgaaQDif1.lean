/- hunk.Lines, slices.Equal on texts, quitclaimref11.Lines: contracts. -/
import Derived.Test.YtkbapegohodcgaaQPac9
import Derived.Lib.IndexLaws
set_option linter.unusedSimpArgs false
set_option linter.unusedVariables false
namespace Go.Proofs.Ytkbapegohodcgaa
open Go.RowKit
open Go.Qk hiding rotr b4
set_option maxHeartbeats 1000000
set_option maxRecDepth 100000
def lineB (s : ByteArray) : Bool := decide (s.size ≤ 200) && decide ((10 : UInt8) ∉ bl s)
def linesB (xs : List ByteArray) : Bool := xs.all lineB && decide (xs.length ≤ 1000)
theorem at_ten (s : ByteArray) : decide (0 ≤ Lib.indexByte s.data.toList 10) = decide ((10 : UInt8) ∈ bl s) := by
  apply decide_eq_decide.2
  have hg := Lib.indexByte_ge s.data.toList 10
  constructor
  · intro h
    obtain ⟨o, ho⟩ : ∃ o : Nat, Lib.indexByte s.data.toList 10 = (o : Int) := ⟨(Lib.indexByte s.data.toList 10).toNat, by omega⟩
    exact List.mem_of_getElem? (Lib.indexByte_some ho).1
  · intro h
    by_cases e : Lib.indexByte s.data.toList 10 = -1
    · obtain ⟨k, hk⟩ := List.getElem?_of_mem h
      exact absurd hk (Lib.indexByte_none e k)
    · omega
theorem hunkLine1 (s : ByteArray) (hs : s.size ≤ 9223372036854775807) (w : World) :
    Calls Try.prog 128 #[.string s] w fun e w' => e = .returned (.bool (!lineB s)) ∧ Below w.heap.size w w' := by
  by_cases h : 200 < s.size
  · have HF := hid (show (!lineB s) = true by unfold lineB; simp; omega)
    go_enter Try.func128, Try.ntmps128
    have HB := hid (grow_refl w)
    go_wp2_with fail
    go_ret
    exact ⟨ret_bool HF.out.symm, HB.out⟩
  · have HF := hid (show (!lineB s) = decide (0 ≤ Lib.indexByte s.data.toList 10) by rw [at_ten]; unfold lineB; simp; omega)
    go_enter Try.func128, Try.ntmps128
    have HB := hid (grow_refl w)
    go_wp2_with fail
    refine (Try.strings_Contains_one s 10 _).mono ?_
    rintro _ w1 ⟨rfl, rfl⟩
    rw [← HF.out]
    have hd : decide ((200 : Int) < (s.size : Int)) = false := by simp; omega
    go_wp2_with fail
    go_ret
    exact ⟨ret_bool (by first | rfl | (rw [hd]; rfl)), HB.out⟩
theorem all_take_step (p : ByteArray → Bool) (xs : List ByteArray) (k : Nat) (h : k < xs.length) : (xs.take (k + 1)).all p = ((xs.take k).all p && p (xs.getD k ByteArray.empty)) := by
  rw [List.take_succ_eq_append_getElem h, List.all_append]
  simp [h]
theorem all_false_at (p : ByteArray → Bool) (xs : List ByteArray) (k : Nat) (h : k < xs.length) (hp : p (xs.getD k ByteArray.empty) = false) : xs.all p = false := by
  rw [List.all_eq_false]
  exact ⟨xs.getD k ByteArray.empty, by simp [h], by simpa using hp⟩
theorem linesIndex (A : Option Addr) (n c : Nat) (xs : List ByteArray) (w : World) (hx : StrRow w A xs) (hn : xs.length = n) (hsa : ∀ s ∈ xs, s.size ≤ 9223372036854775807) :
    Calls Try.prog 142 #[.slice A n c, .func (.func 128) #[] #[]] w fun e w' => (∃ i : Int, e = .returned (.int .i64 i) ∧ decide (0 ≤ i) = !xs.all lineB) ∧ Below w.heap.size w w' := by
  subst hn
  have HX := hid hx
  have HSA := hid hsa
  have bx := hx.1
  clear hx hsa
  go_enter Try.func142, Try.ntmps142
  have HB := hid (grow_refl w)
  go_wp2_with fail
  go_loopg [8] (xs.length + 1) (fun z i wr => ∃ k : Nat, k ≤ xs.length ∧ z = xs.length + 1 - k ∧ i = .int .i64 (k : Int) ∧ Hid ((xs.take k).all lineB = true) ∧ Hid (Grow w wr))
  case atStart => exact ⟨0, by omega, by omega, rfl, hid (by simp), HB⟩
  case round =>
    clear HB
    obtain ⟨k, hk, hz, rfl, HS, HB⟩ := hrel
    by_cases hlt : k < xs.length
    · have k0 : (0 : Int) ≤ (k : Int) := by omega
      have k1 : (k : Int) < (xs.length : Int) := by omega
      obtain ⟨ad, rfl, hc⟩ := (HX.out.grow HB.out).at_ k hlt
      have HL := hid (fun w => hunkLine1 (xs.getD k ByteArray.empty) (HSA.out _ (by simp [hlt])) w)
      have HT := hid (all_take_step lineB xs k hlt)
      have HF := hid (all_false_at lineB xs k hlt)
      generalize xs.getD k ByteArray.empty = x at *
      go_wp2_with fail
      refine (HL.out _).mono ?_
      rintro _ w1 ⟨rfl, hb⟩
      have HB1 := hid (Grow.trans HB.out hb)
      clear hb HL
      generalize hl : lineB x = z1
      cases z1 with
      | false =>
        have HF2 := hid (HF.out hl)
        clear hl HF
        go_wp2_with fail
        go_ret
        exact ⟨⟨_, rfl, by rw [HF2.out]; simp⟩, HB1.out⟩
      | true =>
        have HS2 := hid (show (xs.take (k + 1)).all lineB = true by rw [HT.out, HS.out, hl]; rfl)
        clear hl HF HT
        go_wp2_with fail
        go_roundg (xs.length + 1 - (k + 1))
        case rel => exact ⟨k + 1, by omega, rfl, by go_num, HS2, HB1⟩
        case measure => omega
    · obtain rfl : k = xs.length := by omega
      rw [List.take_length] at HS
      go_wp2_with fail
      go_ret
      exact ⟨⟨_, rfl, by rw [HS.out]; rfl⟩, HB.out⟩
theorem linesHas (A : Option Addr) (n c : Nat) (xs : List ByteArray) (w : World) (hx : StrRow w A xs) (hn : xs.length = n) (hsa : ∀ s ∈ xs, s.size ≤ 9223372036854775807) :
    Calls Try.prog 127 #[.slice A n c, .func (.func 128) #[] #[]] w fun e w' => e = .returned (.bool (!xs.all lineB)) ∧ Below w.heap.size w w' := by
  have HC := hid (linesIndex A n c xs w hx hn hsa)
  clear hx hsa
  go_enter Try.func127, Try.ntmps127
  have HB := hid (grow_refl w)
  go_wp2_with fail
  refine HC.out.mono ?_
  rintro _ w1 ⟨⟨i, rfl, hi⟩, hb⟩
  have HI := hid hi
  have HB1 := hid hb
  clear hi hb
  go_wp2_with fail
  go_ret
  exact ⟨ret_bool HI.out, HB1.out⟩
theorem hunkLines (A : Option Addr) (n c : Nat) (xs : List ByteArray) (w : World) (hx : StrRow w A xs) (hn : xs.length = n) (hsa : ∀ s ∈ xs, s.size ≤ 9223372036854775807) :
    Calls Try.prog 116 #[.slice A n c] w fun e w' => e = .returned (.bool (linesB xs)) ∧ Below w.heap.size w w' := by
  have HC := hid (linesHas A n c xs w hx hn hsa)
  have hn9 := hx.1
  subst hn
  clear hx hsa
  by_cases h : xs.length ≤ 1000
  · have HF := hid (show linesB xs = xs.all lineB by unfold linesB; simp [h])
    go_enter Try.func116, Try.ntmps116
    have HB := hid (grow_refl w)
    go_wp2_with fail
    refine HC.out.mono ?_
    rintro _ w1 ⟨rfl, hb⟩
    have HB1 := hid hb
    clear hb
    go_wp2_with fail
    go_ret
    exact ⟨ret_bool (by rw [HF.out]), HB1.out⟩
  · have h' : 1000 < xs.length := by omega
    have HF := hid (show linesB xs = false by unfold linesB; simp; omega)
    go_enter Try.func116, Try.ntmps116
    have HB := hid (grow_refl w)
    go_wp2_with fail
    go_ret
    exact ⟨ret_bool HF.out.symm, HB.out⟩
theorem diffRight (A B : Option Addr) (n m c d : Nat) (xs ys : List ByteArray) (w : World) (hx : StrRow w A xs) (hy : StrRow w B ys) (hn : xs.length = n) (hm : ys.length = m) (hsa : ∀ s ∈ xs, s.size ≤ 9223372036854775807) (hsb : ∀ s ∈ ys, s.size ≤ 9223372036854775807) :
    Calls Try.prog 95 #[.slice A n c, .slice B m d] w fun e w' => e = .returned (.bool (linesB xs && linesB ys)) ∧ Below w.heap.size w w' := by
  have HC := hid (hunkLines A n c xs w hx hn hsa)
  have HD := hid (fun w1 (h : Grow w w1) => hunkLines B m d ys w1 (hy.grow h) hm hsb)
  clear hx hsa hy hsb hn hm
  go_enter Try.func95, Try.ntmps95
  have HB := hid (grow_refl w)
  go_wp2_with fail
  refine HC.out.mono ?_
  rintro _ w1 ⟨rfl, hb⟩
  have HB1 := hid hb
  clear hb
  generalize h1 : linesB xs = z
  cases z with
  | false =>
    go_wp2_with fail
    go_ret
    exact ⟨ret_bool (by rw [h1]; rfl), HB1.out⟩
  | true =>
    go_wp2_with fail
    refine (HD.out _ HB1.out).mono ?_
    rintro _ w2 ⟨rfl, hb⟩
    have HB2 := hid (Grow.trans HB1.out hb)
    clear hb
    generalize h2 : linesB ys = z2
    go_wp2_with fail
    go_ret
    exact ⟨ret_bool (by rw [h1, h2]; cases z2 <;> rfl), HB2.out⟩
end Go.Proofs.Ytkbapegohodcgaa
